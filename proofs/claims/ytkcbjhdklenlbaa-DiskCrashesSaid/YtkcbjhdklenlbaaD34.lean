/- The law DiskCrashes: the walk. -/
import Derived.Test.YtkcbjhdklenlbaaD35
set_option linter.unusedVariables false
set_option linter.unusedSimpArgs false
namespace Go.Proofs.Ytkcbjhdklenlbaa
open Go.RowKit

/-- what stands ahead of each round -/
structure CInv (N k : Nat) (w : World) (B : Nat) (d : DS) (S : List Nat) (vw : Value) (wr : World) : Prop where
  disk : IsDisk wr B S d
  good : Good N k d
  wait : Row wr 57 257 vw (d.ws.map wc)
  wlo : ∀ g, vw.ownBlock = some g → w.heap.size ≤ g ∧ g ∉ S
  lo : ∀ j ∈ S, w.heap.size ≤ j
  grow : Grow w wr
theorem rowNil (w : World) (e sz : Nat) : Row w e sz (.slice none 0 0) [] := ⟨by simp, ⟨by simp, .inl ⟨rfl, rfl⟩⟩⟩
theorem CInv.flushed {N k : Nat} {w : World} {B : Nat} {d : DS} {S : List Nat} {vw : Value} {wr wz : World} (h : CInv N k w B d S vw wr) (hd : IsDisk wz B S d.flushed) (ht : Touch S wr wz) : CInv N (k + 1) w B d.flushed S (.slice none 0 0) wz :=
  { disk := hd, good := h.good.flushed, wait := rowNil _ _ _, wlo := fun g hg => (by cases hg), lo := h.lo, grow := Below.trans h.grow (ht.below h.grow.size h.lo) }
theorem CInv.skipped {N k : Nat} {w : World} {B : Nat} {d : DS} {S : List Nat} {vw : Value} {wr : World} (h : CInv N k w B d S vw wr) : CInv N (k + 1) w B d S vw wr := { h with good := h.good.more }
theorem CInv.tried {N k : Nat} {w : World} {B : Nat} {d : DS} {S S2 : List Nat} {vw : Value} {wr wz : World} {b : Int} {x : Blk} (h : CInv N k w B d S vw wr) (ht : Touch S wr wz) (hd : IsDisk wz B S2 (d.tried b x)) (hS : ∀ j ∈ S2, j ∈ S ∨ wr.heap.size ≤ j) (hb : ¬ (0 ≤ b ∧ b < N)) : CInv N (k + 1) w B d S2 vw wz := by
  have he : d.tried b x = d := by unfold DS.tried; rw [h.good.why, if_neg hb]; rfl
  rw [he] at hd
  exact { disk := hd, good := h.good.more, wait := h.wait.kept ht (fun g hg => (h.wlo g hg).2), wlo := fun g hg => ⟨(h.wlo g hg).1, fun hm => (by rcases hS g hm with h1 | h1; exact (h.wlo g hg).2 h1; have := h.wait.lt hg; omega)⟩, lo := fun j hj => (by rcases hS j hj with h1 | h1; exact h.lo j h1; have := h.grow.size; omega), grow := Below.trans h.grow (ht.below h.grow.size h.lo) }
/-- a write was done, and is to be noted -/
structure CMid (N k : Nat) (w : World) (B : Nat) (d d' : DS) (S : List Nat) (vw : Value) (wr : World) : Prop where
  disk : IsDisk wr B S d'
  good : Good N (k + 1) d'
  wait : Row wr 57 257 vw (d.ws.map wc)
  wlo : ∀ g, vw.ownBlock = some g → w.heap.size ≤ g ∧ g ∉ S
  lo : ∀ j ∈ S, w.heap.size ≤ j
  grow : Grow w wr
theorem CInv.wrote {N k b : Nat} {w : World} {B : Nat} {d : DS} {S S2 : List Nat} {vw : Value} {wr wz : World} {x : Blk} (h : CInv N k w B d S vw wr) (ht : Touch S wr wz) (hd : IsDisk wz B S2 (d.tried (b : Int) x)) (hS : ∀ j ∈ S2, j ∈ S ∨ wr.heap.size ≤ j) (hb : b < N) : CMid N k w B d (d.wrote b x) S2 vw wz := by
  have he : d.tried (b : Int) x = d.wrote b x := by unfold DS.tried; rw [h.good.why, if_pos (show (0 : Int) ≤ (b : Int) ∧ (b : Int) < (N : Int) by omega), if_pos rfl]; rfl
  rw [he] at hd
  exact { disk := hd, good := h.good.wrote b hb x, wait := h.wait.kept ht (fun g hg => (h.wlo g hg).2), wlo := fun g hg => ⟨(h.wlo g hg).1, fun hm => (by rcases hS g hm with h1 | h1; exact (h.wlo g hg).2 h1; have := h.wait.lt hg; omega)⟩, lo := fun j hj => (by rcases hS j hj with h1 | h1; exact h.lo j h1; have := h.grow.size; omega), grow := Below.trans h.grow (ht.below h.grow.size h.lo) }
def ownL (vw : Value) : List Nat := vw.ownBlock.toList
theorem ownL_mem {vw : Value} {k : Nat} : k ∈ ownL vw ↔ vw.ownBlock = some k := by unfold ownL; simp
theorem CMid.noted {N k b : Nat} {w : World} {B : Nat} {d : DS} {S : List Nat} {vw vw' : Value} {wr wz : World} {x : Blk} (h : CMid N k w B d (d.wrote b x) S vw wr) (ht : Touch (ownL vw) wr wz) (ha : AppAtE 57 wr vw (d.ws.map wc ++ [wc (b, x)]) vw' wz) : CInv N (k + 1) w B (d.wrote b x) S vw' wz where
  disk := h.disk.kept ht (fun j hj hm => (h.wlo j (ownL_mem.1 hm)).2 hj)
  good := h.good
  wait := by show Row wz _ 257 vw' ((d.ws ++ [(b, x)]).map wc); rw [List.map_append]; exact ha.1
  wlo := fun g hg => by
    rcases ha.2 with h1 | ⟨g', h1, h2⟩
    · exact h.wlo g (h1 ▸ hg)
    · rw [hg] at h1; cases h1
      exact ⟨Nat.le_trans h.grow.size h2, fun hm => by have := h.disk.lt g hm; omega⟩
  lo := h.lo
  grow := Below.trans h.grow (ht.below h.grow.size (fun j hj => (h.wlo j (ownL_mem.1 hj)).1))
/-- the second loop -/
structure KInv (N : Nat) (w : World) (B : Nat) (d : DS) (S : List Nat) (vw : Value) (ks : List Bool) (ga gn cn gg cg : Nat) (cap k : Nat) (wr : World) : Prop where
  disk : IsDisk wr B S (d.crashed ks)
  wait : Row wr 57 257 vw (d.ws.map wc)
  was : Row wr 32 256 (.slice (some ⟨ga, 0, none⟩) N cap) ((applyW d.safe (kept (d.ws.take k) ks)).map bc)
  now : Row wr 32 256 (.slice (some ⟨gn, 0, none⟩) N cn) (d.last.map bc)
  got : Row wr 32 256 (.slice (some ⟨gg, 0, none⟩) N cg) ((d.crashed ks).last.map bc)
  aS : ga ∉ S
  aw : ∀ g, vw.ownBlock = some g → g ≠ ga
  an : ga ≠ gn
  ag : ga ≠ gg
  alo : w.heap.size ≤ ga
  lo : ∀ j ∈ S, w.heap.size ≤ j
  grow : Grow w wr
theorem KInv.step {N : Nat} {w : World} {B : Nat} {d : DS} {S : List Nat} {vw : Value} {ks : List Bool} {ga gn cn gg cg cap k : Nat} {wr wz : World} {p : Nat × Blk} (h : KInv N w B d S vw ks ga gn cn gg cg cap k wr) (hp : d.ws[k]? = some p) (hk : ks[k]? = some true) (ht : Touch [ga] wr wz)
    (hr : Row wz 32 256 (.slice (some ⟨ga, 0, none⟩) N cap) (((applyW d.safe (kept (d.ws.take k) ks)).set p.1 p.2).map bc)) : KInv N w B d S vw ks ga gn cn gg cg cap (k + 1) wz :=
  { h with
    disk := h.disk.kept ht (fun j hj hm => h.aS (List.mem_singleton.1 hm ▸ hj))
    wait := h.wait.kept ht (fun g hg hm => h.aw g hg (List.mem_singleton.1 hm))
    was := by rw [kept_step _ _ _ _ hp, if_pos hk, applyW_snoc]; exact hr
    now := h.now.kept ht (fun g hg hm => by cases hg; exact h.an (List.mem_singleton.1 hm).symm)
    got := h.got.kept ht (fun g hg hm => by cases hg; exact h.ag (List.mem_singleton.1 hm).symm)
    grow := Below.trans h.grow (ht.below h.grow.size (fun j hj => by rw [List.mem_singleton.1 hj]; exact h.alo)) }
theorem KInv.pass {N : Nat} {w : World} {B : Nat} {d : DS} {S : List Nat} {vw : Value} {ks : List Bool} {ga gn cn gg cg cap k : Nat} {wr : World} {p : Nat × Blk} (h : KInv N w B d S vw ks ga gn cn gg cg cap k wr) (hp : d.ws[k]? = some p) (hk : ks[k]? ≠ some true) : KInv N w B d S vw ks ga gn cn gg cg cap (k + 1) wr :=
  { h with was := by rw [kept_step _ _ _ _ hp, if_neg hk, List.append_nil]; exact h.was }

set_option maxRecDepth 100000 in
set_option maxHeartbeats 4000000 in
theorem crashes_walk (n : Int) (hn : -9223372036854775808 ≤ n ∧ n ≤ 9223372036854775807) {w : World} {v vk : Value} {l : List AP} (hp : ActsIn w v l) (hl : l.length ≤ 9223372036854775807) {ks : List Bool} (hks : Flags w vk ks) (hkl : ks.length ≤ 9223372036854775807) :
    Calls Try.prog 7 #[.int .i64 n, v, vk] w fun e w' => e = .returned (.bool true) ∧ Below w.heap.size w w' := by
  obtain ⟨ad, cap, rfl, hc⟩ := hp
  by_cases hbad : n < 1 ∨ 64 < n ∨ 100 < l.length
  · generalize l.length = L at *
    clear hc hks
    have HB := Lib.hid hbad
    have hcase : decide (n < 1) = true ∨ (decide (n < 1) = false ∧ decide (64 < n) = true) ∨ (decide (n < 1) = false ∧ decide (64 < n) = false ∧ decide ((100 : Int) < (L : Int)) = true) := by simp; omega
    clear hbad
    rcases hcase with d0 | ⟨d0, d1⟩ | ⟨d0, d1, d2⟩
    all_goals
      go_enter Try.func7, Try.ntmps7
      go_wp2_with fail
      refine (awake_ok _).mono ?_
      intro e w' hpost
      obtain ⟨he, hg⟩ := hpost
      subst he
      have HGf := Lib.hid hg
      clear hg
      go_wp2_with fail
      go_ret
      exact ⟨rfl, HGf.out⟩
  · obtain ⟨N, rfl⟩ : ∃ N : Nat, n = (N : Int) := ⟨n.toNat, by omega⟩
    have h1 : 1 ≤ N := by omega
    have h2 : N ≤ 2048 := by omega
    have HN64 := Lib.hid (show N ≤ 64 by omega)
    have HP := Lib.hid hc
    have HK := Lib.hid hks
    have HKL := Lib.hid hkl
    obtain ⟨L, hL⟩ : ∃ L, L = l.length := ⟨_, rfl⟩
    have h3 : L ≤ 100 := by omega
    rw [← hL]
    have HL := Lib.hid hL
    have d0 : decide ((N : Int) < 1) = false := by simp; omega
    have d1 : decide (64 < (N : Int)) = false := by simp; omega
    have d2 : decide ((100 : Int) < (L : Int)) = false := by simp; omega
    obtain ⟨ak, ck, hvk⟩ := hks.len
    clear hn hL hl hc hbad hks hkl
    subst hvk
    go_enter Try.func7, Try.ntmps7
    go_wp2_with fail
    refine (new_ok N h1 h2 _).mono ?_
    intro e w1 hpost
    obtain ⟨B, S, he, hd, hg, hS⟩ := hpost
    subst he
    have HI := Lib.hid (show CInv N 0 w B (newD N) S (.slice none 0 0) w1 from { disk := hd, good := Good.new N, wait := rowNil _ _ _, wlo := fun g hg => (by cases hg), lo := hS, grow := hg })
    clear hd hg hS
    go_wp2_with fail
    go_loopw [9, 10] (fun t9 t10 wr => ∃ (k : Nat) (d : DS) (S' : List Nat), k ≤ L ∧ t10 = .int .i64 (k : Int) ∧ (∃ a9 n9 c9, t9 = .slice a9 n9 c9 ∧ d.ws.length = n9) ∧ Hid (CInv N k w B d S' t9 wr)) (fun t9 t10 _ => L - (intOf t10).toNat)
    case atStart => exact ⟨0, _, S, by omega, rfl, ⟨none, 0, 0, rfl, rfl⟩, HI⟩
    case round =>
      obtain ⟨k, d, S', hk, rfl, ⟨a9, n9, c9, rfl, hn9⟩, HI⟩ := hrel
      by_cases hlt : k < L
      · have hkl : k < l.length := by rw [← HL.out]; exact hlt
        obtain ⟨p, hpk⟩ : ∃ p, l[k]? = some p := ⟨l[k], by simp [hkl]⟩
        obtain ⟨y, rfl, hyb, vkk, hc0, hc1, hc2, _, _, _, hkk, hpa, hpf⟩ := HP.out k p hpk
        obtain ⟨q, b, f, pks⟩ := p
        have hI := HI.out
        have hc0' := (hI.grow.cell (p := y.add (k * 4)) (by rw [add_block]; exact hyb)).trans hc0
        have HC1 := Lib.hid ((hI.grow.cell (p := (y.add (k * 4)).add 1) (by rw [add_block, add_block]; exact hyb)).trans hc1)
        have HC2 := Lib.hid ((hI.grow.cell (p := (y.add (k * 4)).add 2) (by rw [add_block, add_block]; exact hyb)).trans hc2)
        have HYS := Lib.hid (show y.block ∉ S' from fun hm => by have := hI.lo _ hm; omega)
        have HYL := Lib.hid (Nat.lt_of_lt_of_le hyb hI.grow.size)
        have HYB := Lib.hid hyb
        have HF := Lib.hid hpf
        have HWS := Lib.hid (show d.ws.length ≤ 100000 by have := hI.good.ws; omega)
        have HA := Lib.hid (show 0 ≤ d.acts ∧ d.acts ≤ 1000000 by have := hI.good.acts; omega)
        have HLL := Lib.hid (show 0 ≤ d.left ∧ d.left ≤ 9223372036854775807 by rw [hI.good.left]; omega)
        have HDD := Lib.hid hI.disk
        have b0 : (0 : Int) ≤ (k : Int) := by omega
        have b1 : (k : Int) < (L : Int) := by omega
        dsimp only at hc0' hkk
        obtain ⟨r, hr⟩ : ∃ r : Int, q.tmod 8 = r := ⟨_, rfl⟩
        clear hI hpk hc0 hc1 hc2 hyb hpa hpf hkl
        have HDe := Lib.hid HI.out.good.dead
        have HWI := Lib.hid HI.out.good.in_
        have HW6 := Lib.hid (show d.ws.length ≤ 1000000 by have := HWS.out; omega)
        by_cases hr4 : r = 4
        · subst hr4
          go_wp2_with fail
          refine (flush_ok HDD.out HDe.out HWI.out HW6.out HA.out HLL.out).mono ?_
          intro e wz hpost
          obtain ⟨he, hd, ht⟩ := hpost
          subst he
          have HI2 := Lib.hid (HI.out.flushed hd ht)
          clear hd ht hc0' HI HDD
          go_wp2_with fail
          go_roundw
          case rel => exact ⟨k + 1, _, S', by omega, by go_num, ⟨none, 0, 0, rfl, rfl⟩, HI2⟩
          case measure => simp [intOf]; omega
        · have e4 : (r == 4) = false := by simpa using hr4
          by_cases hr567 : r = 5 ∨ r = 6 ∨ r = 7
          · have HI2 := Lib.hid HI.out.skipped
            rcases hr567 with rfl | rfl | rfl
            all_goals
              go_wp2_with fail
              go_roundw
              case rel => exact ⟨k + 1, d, S', by omega, by go_num, ⟨a9, n9, c9, rfl, hn9⟩, HI2⟩
              case measure => simp [intOf]; omega
          · have e5 : (r == 5) = false := by simp; omega
            have e6 : (r == 6) = false := by simp; omega
            have e7 : (r == 7) = false := by simp; omega
            go_upto_region 12 with (fail)
            refine crw_reg B S' d y L cap k f b wr HDD HC1 HC2 HYL HYS HF hlt HWS HA HLL _ _ _ _ _ _ _ _ _ _ _ _ _ _ _ _ _ _ _ _ _ _ _ _ _ _ _ _ _ _ _ _ _ _ _ _ _ _ _ _ _ _ _ _ _ _ _ _ _ _ _ _ _ _ _ _ _ _ _ _ _ _ _ _ _ _ _ _ _ _ _ _ _ _ _ _ _ _ _ _ _ _ _ _ _ _ _ _ _ _ _ _ _ _ _ _ _ _ _ _ _ _ _ _ _ _ _ _ _ _ _ _ _ _ _ _ _ _ _ _ _ _ _ _ _ _ _ _ _ _ _ _ _ _ _ _ _ _ _ _ _ _ _ _ _ _ _ _ _ _ _ _ _ _ _ _ _ _ _ _ _ _ _ _ _ _ _ _ _ _ _ _ _ _ _ _ _ _ _ _ _ _ _ _ _ _ _ _ _ (Lib.hid ?_)
            intro y50 y51 y52 y53 y54 y55 y56 y57 y58 y59 y60 y61 y62 wz ht hex
            obtain ⟨S2, hd2, hS2⟩ := hex
            have hwy := HI.out.good.why b
            by_cases hin : 0 ≤ b ∧ b < (N : Int)
            · obtain ⟨c, rfl⟩ : ∃ c : Nat, b = (c : Int) := ⟨b.toNat, by omega⟩
              have HM := Lib.hid (HI.out.wrote ht hd2 hS2 (show c < N by omega))
              rw [if_pos hin] at hwy
              rw [hwy]
              have hM := HM.out
              have HC1' := Lib.hid ((ht.cell (a := (y.add (k * 4)).add 1) (by rw [add_block, add_block]; exact HYL.out) (by rw [add_block, add_block]; exact HYS.out)).trans HC1.out)
              have HC2' := Lib.hid ((ht.cell (a := (y.add (k * 4)).add 2) (by rw [add_block, add_block]; exact HYL.out) (by rw [add_block, add_block]; exact HYS.out)).trans HC2.out)
              have HYL' := Lib.hid (Nat.lt_of_lt_of_le HYL.out ht.size)
              have HYO := Lib.hid (show y.block ∉ ownL (.slice a9 n9 c9) from fun hm => by have := (hM.wlo _ (ownL_mem.1 hm)).1; have := HYB.out; omega)
              have HRW := Lib.hid hM.wait
              have HIW := Lib.hid (show ∀ j, (Value.slice a9 n9 c9).ownBlock = some j → j ∈ ownL (.slice a9 n9 c9) from fun j hj => ownL_mem.2 hj)
              have HLT := Lib.hid (show ∀ j ∈ ownL (.slice a9 n9 c9), j < wz.heap.size from fun j hj => hM.wait.lt (ownL_mem.1 hj))
              have HW1 := Lib.hid (show d.ws.length + 1 ≤ 1000000 by have := HWS.out; omega)
              clear ht hd2 hS2 hwy hM HC1 HC2 HYL HDD HI hc0'
              go_upto_region 14 with (fail)
              refine crn_reg (ownL (.slice a9 n9 c9)) d.ws (.slice a9 n9 c9) y L cap k f c wz HRW HIW HLT HC1' HC2' HYL' HYO HF hlt HW1 _ _ _ _ _ _ _ _ _ _ _ _ _ _ _ _ _ _ _ _ _ _ _ _ _ _ _ _ _ _ _ _ _ _ _ _ _ _ _ _ _ _ _ _ _ _ _ _ _ _ _ _ _ _ _ _ _ _ _ _ _ _ _ _ _ _ _ _ _ _ _ _ _ _ _ _ _ _ _ _ _ _ _ _ _ _ _ _ _ _ _ _ _ _ _ _ _ _ _ _ _ _ _ _ _ _ _ _ _ _ _ _ _ _ _ _ _ _ _ _ _ _ _ _ _ _ _ _ _ _ _ _ _ _ _ _ _ _ _ _ _ _ _ _ _ _ _ _ _ _ _ _ _ _ _ _ _ _ _ _ _ _ _ _ _ _ _ _ _ _ _ _ _ _ _ _ _ _ _ _ _ _ _ _ _ _ _ _ _ (Lib.hid ?_)
              intro vw' z65 z66 z67 z68 z69 z70 z71 z72 z73 z74 z75 z76 z77 z78 z79 wq ht ha
              have HI2 := Lib.hid (HM.out.noted ht ha)
              obtain ⟨a9', n9', c9', hvv, hn9'⟩ : ∃ a9' n9' c9', vw' = .slice a9' n9' c9' ∧ (d.wrote c (fillB f)).ws.length = n9' := by
                obtain ⟨aa, cc, hh⟩ := HI2.out.wait.len
                exact ⟨aa, _, cc, hh, by simp⟩
              subst hvv
              clear ht ha HM
              go_wp2_with fail
              go_roundw
              case rel => exact ⟨k + 1, _, S2, by omega, by go_num, ⟨a9', n9', c9', rfl, hn9'⟩, HI2⟩
              case measure => simp [intOf]; omega
            · have HI2 := Lib.hid (HI.out.tried ht hd2 hS2 hin)
              rw [if_neg hin] at hwy
              rw [hwy]
              clear ht hd2 hS2 hwy HI HC1 HC2 HDD hc0'
              go_wp2_with fail
              go_roundw
              case rel => exact ⟨k + 1, d, S2, by omega, by go_num, ⟨a9, n9, c9, rfl, hn9⟩, HI2⟩
              case measure => simp [intOf]; omega
      · obtain rfl : L = k := by omega
        have hI := HI.out
        have HDk := Lib.hid hI.disk
        have HGo := Lib.hid hI.good
        have HSl := Lib.hid hI.good.safe
        have HLl := Lib.hid (show d.last.length = N by rw [hI.good.last, applyW_length]; exact hI.good.safe)
        have HCl := Lib.hid (show (d.crashed ks).last.length = N by show (applyW d.safe (kept d.ws ks)).length = N; rw [applyW_length]; exact hI.good.safe)
        have HWt := Lib.hid hI.wait
        have HWo := Lib.hid hI.wlo
        have HLo := Lib.hid hI.lo
        have HGr := Lib.hid hI.grow
        have HGr' := Lib.hid hI.grow.size
        clear hI HI
        go_wp2_with fail
        refine (safe_ok HDk.out).mono ?_
        intro e w2 hpost
        obtain ⟨ga, ca, he, hra, hga, hg2⟩ := hpost
        rw [HSl.out] at he hra
        subst he
        have HD2 := Lib.hid (HDk.out.kept (Touch.of_below (S := []) hg2) (by simp))
        have HW2 := Lib.hid (HWt.out.kept (Touch.of_below (S := []) hg2) (by simp))
        have HG2 := Lib.hid (Grow.trans HGr.out hg2)
        have HRA2 := Lib.hid hra
        have HGA := Lib.hid hga
        have HGS := Lib.hid (show ga ∉ S' from fun hm => by have := HDk.out.lt _ hm; omega)
        have HGW := Lib.hid (show ∀ g, (Value.slice a9 n9 c9).ownBlock = some g → g ≠ ga from fun g hg => by have := HWt.out.lt hg; omega)
        clear hra hga hg2
        go_wp2_with fail
        refine (image_ok HD2.out).mono ?_
        intro e w3 hpost
        obtain ⟨gn, cn, he, hrn, hgn, hg3⟩ := hpost
        rw [HLl.out] at he hrn
        subst he
        have HD3 := Lib.hid (HD2.out.kept (Touch.of_below (S := []) hg3) (by simp))
        have HW3 := Lib.hid (HW2.out.kept (Touch.of_below (S := []) hg3) (by simp))
        have HG3 := Lib.hid (Grow.trans HG2.out hg3)
        have HRA3 := Lib.hid (HRA2.out.kept (Touch.of_below (S := []) hg3) (by simp))
        have HRN3 := Lib.hid hrn
        have HAN := Lib.hid (show ga ≠ gn by have := HRA2.out.lt (g := ga) rfl; omega)
        have HNS := Lib.hid (show gn ∉ S' from fun hm => by have := HD2.out.lt _ hm; omega)
        clear hrn hgn hg3 HDk HWt HGr HD2 HW2 HG2 HRA2
        go_wp2_with fail
        refine (waiting_any HD3.out).mono ?_
        intro e w' hpost
        obtain ⟨he, hw⟩ := hpost
        subst he hw
        rw [hn9]
        go_wp2_with fail
        refine (crash_ok HD3.out _ ks (HK.out.bools S' HG3.out HLo.out) HKL.out HGo.out.in_ (by have := HGo.out.ws; omega)).mono ?_
        intro e w4 hpost
        obtain ⟨⟨ve, he⟩, hd4, ht4⟩ := hpost
        subst he
        have HD4 := Lib.hid hd4
        have HW4 := Lib.hid (HW3.out.kept ht4 (fun g hg => (HWo.out g hg).2))
        have HG4 := Lib.hid (Below.trans HG3.out (ht4.below HG3.out.size HLo.out))
        have HRA4 := Lib.hid (HRA3.out.kept ht4 (fun g hg => by cases hg; exact HGS.out))
        have HRN4 := Lib.hid (HRN3.out.kept ht4 (fun g hg => by cases hg; exact HNS.out))
        clear hd4 ht4 HD3 HW3 HG3 HRA3 HRN3
        go_wp2_with fail
        refine (image_ok HD4.out).mono ?_
        intro e w5 hpost
        obtain ⟨gg, cg, he, hrg, hgg, hg5⟩ := hpost
        rw [HCl.out] at he hrg
        subst he
        have HKI := Lib.hid (show KInv N w B d S' (.slice a9 n9 c9) ks ga gn cn gg cg ca 0 w5 from
          { disk := HD4.out.kept (Touch.of_below (S := []) hg5) (by simp)
            wait := HW4.out.kept (Touch.of_below (S := []) hg5) (by simp)
            was := by rw [List.take_zero, show kept [] ks = [] from by cases ks <;> rfl]; exact HRA4.out.kept (Touch.of_below (S := []) hg5) (by simp)
            now := HRN4.out.kept (Touch.of_below (S := []) hg5) (by simp)
            got := hrg
            aS := HGS.out
            aw := HGW.out
            an := HAN.out
            ag := by have := HRA4.out.lt (g := ga) rfl; omega
            alo := Nat.le_trans HGr'.out HGA.out
            lo := HLo.out
            grow := Grow.trans HG4.out hg5 })
        clear hrg hgg hg5 HD4 HW4 HG4 HRA4 HRN4 HGS HGW HAN HNS HGA
        obtain ⟨al, hal⟩ : ∃ al : Bool, decide (n9 ≤ ks.length) = al := ⟨_, rfl⟩
        have HAL := Lib.hid (show al = allTo n9 ks 0 by rw [allTo_zero, ← hal])
        go_wp2_with fail
        clear hal
        go_loopw [15, 16] (fun t15 t16 wr => ∃ (k : Nat), k ≤ n9 ∧ t15 = .bool (allTo n9 ks k) ∧ t16 = .int .i64 (k : Int) ∧ Hid (KInv N w B d S' (.slice a9 n9 c9) ks ga gn cn gg cg ca k wr)) (fun t15 t16 _ => n9 - (intOf t16).toNat)
        case atStart => exact ⟨0, by omega, by rw [HAL.out], rfl, HKI⟩
        case round =>
          clear HAL
          obtain ⟨j, hj, rfl, rfl, HKI⟩ := hrel
          have n9l : n9 ≤ 100000 := by have := HGo.out.ws; omega
          by_cases hlt : j < n9
          · have hjw : j < d.ws.length := by omega
            obtain ⟨p, hpj⟩ : ∃ p, d.ws[j]? = some p := ⟨d.ws[j], by simp [hjw]⟩
            have HPJ := Lib.hid hpj
            have c0 : (0 : Int) ≤ (j : Int) := by omega
            have c1 : decide ((j : Int) < (n9 : Int)) = true := by simp; omega
            by_cases hjk : j < ks.length
            · obtain ⟨x, hx⟩ : ∃ x, ks[j]? = some x := ⟨ks[j], by simp [hjk]⟩
              obtain ⟨ak', ck', heq, hfl⟩ := HK.out
              cases heq
              obtain ⟨yk, rfl, hyb, hyc⟩ := hfl j x hx
              have hyc' := (HKI.out.grow.cell (p := yk.add j) (by rw [add_block]; exact hyb)).trans hyc
              have c2 : decide ((j : Int) < (ks.length : Int)) = true := by simp; omega
              clear hfl hyb hyc hpj
              cases x with
              | true =>
                obtain ⟨gw, cw, hv, hgw, _, _⟩ := HKI.out.wait.open_ (by rw [List.length_map]; omega)
                rw [List.length_map, hn9] at hv
                cases hv
                obtain ⟨pb, px⟩ := p
                have HRW := Lib.hid (HKI.out.wait.range (i := j) (c := wc (pb, px)) (by rw [List.getElem?_map, HPJ.out]; rfl))
                have HXl := Lib.hid (show px.length = 256 by have := HKI.out.wait.1 (wc (pb, px)) (List.mem_map_of_mem (List.mem_of_getElem? HPJ.out)); unfold wc at this; rw [List.length_cons, bc_length] at this; dsimp only at this; omega)
                have HLW := Lib.hid hgw
                have HWG := Lib.hid (show gw ∉ [ga] from fun hm => HKI.out.aw gw rfl (List.mem_singleton.1 hm))
                have HRL := Lib.hid HKI.out.was
                have hlen : (applyW d.safe (kept (d.ws.take j) ks)).length = N := by rw [applyW_length]; exact HSl.out
                have hpb : pb < (applyW d.safe (kept (d.ws.take j) ks)).length := by rw [hlen]; exact HGo.out.wlt _ (List.mem_of_getElem? HPJ.out)
                have HX := Lib.hid hx
                clear hx hgw
                go_upto_region 32 with (fail)
                refine crs_reg ga N ca gw n9 c9 j pb px (applyW d.safe (kept (d.ws.take j) ks)) _ HLW HWG HRW HXl hlt HRL hpb hlen _ _ _ _ _ _ _ _ _ _ _ _ _ _ _ _ _ _ _ _ _ _ _ _ _ _ _ _ _ _ _ _ _ _ _ _ _ _ _ _ _ _ _ _ _ _ _ _ _ _ _ _ _ _ _ _ _ _ _ _ _ _ _ _ _ _ _ _ _ _ _ _ _ _ _ _ _ _ _ _ _ _ _ _ _ _ _ _ _ _ _ _ _ _ _ _ _ _ _ _ _ _ _ _ _ _ _ _ _ _ _ _ _ _ _ _ _ _ _ _ _ _ _ _ _ _ _ _ _ _ _ _ _ _ _ _ _ _ _ _ _ _ _ _ _ _ _ _ _ _ _ _ _ _ _ _ _ _ _ _ _ _ _ _ _ _ _ _ _ _ _ _ _ _ _ _ _ _ _ _ _ _ _ _ _ _ _ _ _ (Lib.hid ?_)
                intro z137 z138 z139 z140 z141 z142 z143 z144 z145 z146 z147 z148 wz ht hr
                have HK2 := Lib.hid (HKI.out.step HPJ.out HX.out ht hr)
                have HA2 := Lib.hid (allTo_yes (m := n9) HX.out)
                clear ht hr HKI HRW HRL hyc'
                go_wp2_with fail
                go_roundw
                case rel => exact ⟨j + 1, by omega, by rw [HA2.out], by go_num, HK2⟩
                case measure => simp [intOf]; omega
              | false =>
                have HK2 := Lib.hid (HKI.out.pass HPJ.out (by rw [hx]; simp))
                have HA2 := Lib.hid (allTo_no (ks := ks) hlt (by rw [hx]; simp))
                clear hx
                go_wp2_with fail
                go_roundw
                case rel => exact ⟨j + 1, by omega, by rw [HA2.out], by go_num, HK2⟩
                case measure => simp [intOf]; omega
            · have c2 : decide ((j : Int) < (ks.length : Int)) = false := by simp; omega
              have HK2 := Lib.hid (HKI.out.pass HPJ.out (by rw [List.getElem?_eq_none (by omega)]; simp))
              have HA2 := Lib.hid (allTo_no (ks := ks) hlt (by rw [List.getElem?_eq_none (by omega)]; simp))
              clear hpj
              go_wp2_with fail
              go_roundw
              case rel => exact ⟨j + 1, by omega, by rw [HA2.out], by go_num, HK2⟩
              case measure => simp [intOf]; omega
          · obtain rfl : n9 = j := by omega
            have hK := HKI.out
            have hta : d.ws.take n9 = d.ws := by rw [← hn9, List.take_length]
            have HRW := Lib.hid (show Row wr 32 256 (.slice (some ⟨ga, 0, none⟩) N ca) ((d.crashed ks).last.map bc) by have := hK.was; rw [hta] at this; exact this)
            have HGt := Lib.hid hK.got
            have HNw := Lib.hid hK.now
            have HDq := Lib.hid hK.disk
            have HGq := Lib.hid hK.grow
            have HL1 := Lib.hid (show 1 ≤ (d.crashed ks).last.length by rw [HCl.out]; exact h1)
            have HL2 := Lib.hid (show (d.crashed ks).last.length ≤ 4096 by rw [HCl.out]; omega)
            have HCs := Lib.hid (show (d.crashed ks).safe.length = N from HCl.out)
            have HGC := Lib.hid (HGo.out.crashed ks)
            have HF7 := Lib.hid (fun w => fill_any 77 (by omega) w)
            have HL7 := Lib.hid (fillB_length 77)
            generalize fillB 77 = x7 at *
            have HSz7 := Lib.hid (show (Try.prog.info? 32).map (·.size) = some (bc x7).toArray.size by rw [List.size_toArray, bc_length, HL7.out]; exact size32)
            have HO7 := Lib.hid (show (bc x7).toArray.all (·.oneCell') = true from all_oneCell_toArray (bc_one _))
            have hz := zero32
            have HSo7 := Lib.hid (zero_size.trans (show 256 = (bc x7).toArray.size by rw [List.size_toArray, bc_length, HL7.out]))
            generalize (bc zeroB).toArray = Z at *
            have HGW := Lib.hid (HGC.out.wrote 0 h1 x7)
            have HGF := Lib.hid HGW.out.flushed
            clear hK HKI hta
            cases hal : allTo n9 ks n9 with
            | true =>
              have HAl := Lib.hid hal
              clear hal
              go_wp2_with fail
              refine (same_yes HGt.out HRW.out HL1.out HL2.out).mono ?_
              intro e q1 hpost
              obtain ⟨he, hg⟩ := hpost
              subst he
              have HDq1 := Lib.hid (HDq.out.kept (Touch.of_below (S := []) hg) (by simp))
              have HGt1 := Lib.hid (HGt.out.kept (Touch.of_below (S := []) hg) (by simp))
              have HNw1 := Lib.hid (HNw.out.kept (Touch.of_below (S := []) hg) (by simp))
              have HGq1 := Lib.hid (Grow.trans HGq.out hg)
              clear hg HDq HGt HNw HGq HRW
              go_wp2_with fail
              refine (safe_ok HDq1.out).mono ?_
              intro e q2 hpost
              obtain ⟨gf, cf, he, hr, _, hg⟩ := hpost
              rw [HCs.out] at he hr
              subst he
              have HSf := Lib.hid (show Row q2 32 256 (.slice (some ⟨gf, 0, none⟩) N cf) ((d.crashed ks).last.map bc) from hr)
              have HDq2 := Lib.hid (HDq1.out.kept (Touch.of_below (S := []) hg) (by simp))
              have HGt2 := Lib.hid (HGt1.out.kept (Touch.of_below (S := []) hg) (by simp))
              have HNw2 := Lib.hid (HNw1.out.kept (Touch.of_below (S := []) hg) (by simp))
              have HGq2 := Lib.hid (Grow.trans HGq1.out hg)
              clear hg hr HDq1 HGt1 HNw1 HGq1
              go_wp2_with fail
              refine (same_yes HSf.out HGt2.out HL1.out HL2.out).mono ?_
              intro e q3 hpost
              obtain ⟨he, hg⟩ := hpost
              subst he
              have HDq3 := Lib.hid (HDq2.out.kept (Touch.of_below (S := []) hg) (by simp))
              have HGt3 := Lib.hid (HGt2.out.kept (Touch.of_below (S := []) hg) (by simp))
              have HNw3 := Lib.hid (HNw2.out.kept (Touch.of_below (S := []) hg) (by simp))
              have HGq3 := Lib.hid (Grow.trans HGq2.out hg)
              clear hg HDq2 HGt2 HNw2 HGq2 HSf
              have HNE := Lib.hid (show d.last = (d.crashed ks).last by rw [HGo.out.last]; show applyW d.safe d.ws = applyW d.safe (kept d.ws ks); rw [kept_full d.ws ks (by rw [hn9]; exact HAl.out)])
              rw [HNE.out] at HNw3
              go_wp2_with fail
              refine (same_yes HGt3.out HNw3.out HL1.out HL2.out).mono ?_
              intro e q4 hpost
              obtain ⟨he, hg⟩ := hpost
              subst he
              have HDq4 := Lib.hid (HDq3.out.kept (Touch.of_below (S := []) hg) (by simp))
              have HGq4 := Lib.hid (Grow.trans HGq3.out hg)
              clear hg HDq3 HGq3 HGt3 HNw3
              go_wp2_with fail
              refine (HF7.out _).mono ?_
              intro e q5 hpost
              obtain ⟨he, hg⟩ := hpost
              subst he
              have HDq5 := Lib.hid (HDq4.out.kept (Touch.of_below (S := []) hg) (by simp))
              have HGq5 := Lib.hid (Grow.trans HGq4.out hg)
              clear hg HDq4 HGq4
              go_wp2_with fail
              refine (show Calls Try.prog 22 #[.pointer (some ⟨B, 0, none⟩), .int .i64 0, .agg (bc x7).toArray] _ _ from write_ok HDq5.out 0 (by rw [HCs.out]; exact h1) x7 HL7.out rfl (Nat.zero_le _) (by have := HGC.out.acts; omega) (by rw [HGC.out.left]; omega)).mono ?_
              intro e q6 hpost
              obtain ⟨he, S6, hd, ht, hS⟩ := hpost
              subst he
              have HDq6 := Lib.hid hd
              have HLo6 := Lib.hid (show ∀ j ∈ S6, w.heap.size ≤ j from fun j hj => by rcases hS j hj with h | h; exact HLo.out j h; exact Nat.le_trans HGq5.out.size h)
              have HGq6 := Lib.hid (show Grow w q6 from Below.trans HGq5.out (ht.below HGq5.out.size HLo.out))
              clear hd ht hS HDq5 HGq5
              go_wp2_with fail
              refine (flush_ok HDq6.out HGW.out.dead HGW.out.in_ (by have := HGW.out.ws; omega) (by have := HGW.out.acts; omega) (by rw [HGW.out.left]; omega)).mono ?_
              intro e q7 hpost
              obtain ⟨he, hd, ht⟩ := hpost
              subst he
              have HDq7 := Lib.hid hd
              have HGq7 := Lib.hid (show Grow w q7 from Below.trans HGq6.out (ht.below HGq6.out.size HLo6.out))
              clear hd ht HDq6 HGq6
              go_wp2_with fail
              refine (crash_ok HDq7.out _ [] (Bools.nil _ _) (Nat.zero_le _) HGF.out.in_ (by have := HGF.out.ws; omega)).mono ?_
              intro e q8 hpost
              obtain ⟨⟨ve, he⟩, hd, ht⟩ := hpost
              subst he
              have HDq8 := Lib.hid hd
              have HGq8 := Lib.hid (show Grow w q8 from Below.trans HGq7.out (ht.below HGq7.out.size HLo6.out))
              clear hd ht HDq7 HGq7
              go_wp2_with fail
              have HRd := Lib.hid (crash_read N L d ks x7 HGo.out h1)
              obtain ⟨hrl, hrv⟩ := HRd.out
              have hrd := read_ok HDq8.out 0 hrl rfl
              rw [hrv] at hrd
              refine (show Calls Try.prog 19 #[.pointer (some ⟨B, 0, none⟩), .int .i64 0] _ _ from hrd).mono ?_
              clear hrd hrv hrl HRd
              intro e q9 hpost
              obtain ⟨he, hg⟩ := hpost
              subst he
              have HGq9 := Lib.hid (Grow.trans HGq8.out hg)
              clear hg HGq8 HDq8
              go_wp2_with (refine wpList_store_row rfl 32 _ _ rfl q9.heap.size (bc x7).toArray rfl rfl 32 Z (heap_alloc_last _ _) HSz7.out HSo7.out HO7.out ?_)
              have ht : Touch [] q9 ((q9.alloc (.cells Z 32)).setRow q9.heap.size (bc x7).toArray) := Touch.of_below (below_setRow ((Below.refl _ _).alloc (Nat.le_refl _) _) (Nat.le_refl _) _)
              have HX := Lib.hid (show q9.heap.size < ((q9.alloc (.cells Z 32)).setRow q9.heap.size (bc x7).toArray).heap.size ∧ ((q9.alloc (.cells Z 32)).setRow q9.heap.size (bc x7).toArray).heap[q9.heap.size]? = some (.cells (bc x7).toArray 32 (0, 0)) from ⟨by simp, setRow_heap _ _ _ _ _ _ (heap_alloc_last _ _)⟩)
              have HGs := Lib.hid (Grow.trans HGq9.out (ht.below (Nat.le_refl _) (by simp)))
              clear ht HGq9
              generalize (q9.alloc (.cells Z 32)).setRow q9.heap.size (bc x7).toArray = qa at *
              obtain ⟨P, hP⟩ : ∃ P, P = q9.heap.size := ⟨_, rfl⟩
              rw [← hP] at HX
              rw [← hP]
              clear hP
              go_upto_region 40 with (fail)
              refine cre_reg P (bc x7).toArray qa HX HSz7 (Lib.hid (equal32 x7 HL7.out)) HF7 _ _ _ _ _ _ _ _ _ _ _ _ _ _ _ _ _ _ _ _ _ _ _ _ _ _ _ _ _ _ _ _ _ _ _ _ _ _ _ _ _ _ _ _ _ _ _ _ _ _ _ _ _ _ _ _ _ _ _ _ _ _ _ _ _ _ _ _ _ _ _ _ _ _ _ _ _ _ _ _ _ _ _ _ _ _ _ _ _ _ _ _ _ _ _ _ _ _ _ _ _ _ _ _ _ _ _ _ _ _ _ _ _ _ _ _ _ _ _ _ _ _ _ _ _ _ _ _ _ _ _ _ _ _ _ _ _ _ _ _ _ _ _ _ _ _ _ _ _ _ _ _ _ _ _ _ _ _ _ _ _ _ _ _ _ _ _ _ _ _ _ _ _ _ _ _ _ _ _ _ _ _ _ _ _ _ _ _ _ _ (Lib.hid ?_)
              intro z181 z182 z183 z184 z185 z186 z187 z188 z189 z190 wz hgz
              have HGf := Lib.hid (Grow.trans HGs.out hgz)
              clear hgz
              go_wp2_with fail
              go_ret
              exact ⟨rfl, HGf.out⟩
            | false =>
              have HAl := Lib.hid hal
              clear hal
              go_wp2_with fail
              refine (same_yes HGt.out HRW.out HL1.out HL2.out).mono ?_
              intro e q1 hpost
              obtain ⟨he, hg⟩ := hpost
              subst he
              have HDq1 := Lib.hid (HDq.out.kept (Touch.of_below (S := []) hg) (by simp))
              have HGt1 := Lib.hid (HGt.out.kept (Touch.of_below (S := []) hg) (by simp))
              have HNw1 := Lib.hid (HNw.out.kept (Touch.of_below (S := []) hg) (by simp))
              have HGq1 := Lib.hid (Grow.trans HGq.out hg)
              clear hg HDq HGt HNw HGq HRW
              go_wp2_with fail
              refine (safe_ok HDq1.out).mono ?_
              intro e q2 hpost
              obtain ⟨gf, cf, he, hr, _, hg⟩ := hpost
              rw [HCs.out] at he hr
              subst he
              have HSf := Lib.hid (show Row q2 32 256 (.slice (some ⟨gf, 0, none⟩) N cf) ((d.crashed ks).last.map bc) from hr)
              have HDq2 := Lib.hid (HDq1.out.kept (Touch.of_below (S := []) hg) (by simp))
              have HGt2 := Lib.hid (HGt1.out.kept (Touch.of_below (S := []) hg) (by simp))
              have HNw2 := Lib.hid (HNw1.out.kept (Touch.of_below (S := []) hg) (by simp))
              have HGq2 := Lib.hid (Grow.trans HGq1.out hg)
              clear hg hr HDq1 HGt1 HNw1 HGq1
              go_wp2_with fail
              refine (same_yes HSf.out HGt2.out HL1.out HL2.out).mono ?_
              intro e q3 hpost
              obtain ⟨he, hg⟩ := hpost
              subst he
              have HDq3 := Lib.hid (HDq2.out.kept (Touch.of_below (S := []) hg) (by simp))
              have HGt3 := Lib.hid (HGt2.out.kept (Touch.of_below (S := []) hg) (by simp))
              have HNw3 := Lib.hid (HNw2.out.kept (Touch.of_below (S := []) hg) (by simp))
              have HGq3 := Lib.hid (Grow.trans HGq2.out hg)
              clear hg HDq2 HGt2 HNw2 HGq2 HSf
              go_wp2_with fail
              refine (HF7.out _).mono ?_
              intro e q5 hpost
              obtain ⟨he, hg⟩ := hpost
              subst he
              have HDq5 := Lib.hid (HDq3.out.kept (Touch.of_below (S := []) hg) (by simp))
              have HGq5 := Lib.hid (Grow.trans HGq3.out hg)
              clear hg HDq3 HGq3
              go_wp2_with fail
              refine (show Calls Try.prog 22 #[.pointer (some ⟨B, 0, none⟩), .int .i64 0, .agg (bc x7).toArray] _ _ from write_ok HDq5.out 0 (by rw [HCs.out]; exact h1) x7 HL7.out rfl (Nat.zero_le _) (by have := HGC.out.acts; omega) (by rw [HGC.out.left]; omega)).mono ?_
              intro e q6 hpost
              obtain ⟨he, S6, hd, ht, hS⟩ := hpost
              subst he
              have HDq6 := Lib.hid hd
              have HLo6 := Lib.hid (show ∀ j ∈ S6, w.heap.size ≤ j from fun j hj => by rcases hS j hj with h | h; exact HLo.out j h; exact Nat.le_trans HGq5.out.size h)
              have HGq6 := Lib.hid (show Grow w q6 from Below.trans HGq5.out (ht.below HGq5.out.size HLo.out))
              clear hd ht hS HDq5 HGq5
              go_wp2_with fail
              refine (flush_ok HDq6.out HGW.out.dead HGW.out.in_ (by have := HGW.out.ws; omega) (by have := HGW.out.acts; omega) (by rw [HGW.out.left]; omega)).mono ?_
              intro e q7 hpost
              obtain ⟨he, hd, ht⟩ := hpost
              subst he
              have HDq7 := Lib.hid hd
              have HGq7 := Lib.hid (show Grow w q7 from Below.trans HGq6.out (ht.below HGq6.out.size HLo6.out))
              clear hd ht HDq6 HGq6
              go_wp2_with fail
              refine (crash_ok HDq7.out _ [] (Bools.nil _ _) (Nat.zero_le _) HGF.out.in_ (by have := HGF.out.ws; omega)).mono ?_
              intro e q8 hpost
              obtain ⟨⟨ve, he⟩, hd, ht⟩ := hpost
              subst he
              have HDq8 := Lib.hid hd
              have HGq8 := Lib.hid (show Grow w q8 from Below.trans HGq7.out (ht.below HGq7.out.size HLo6.out))
              clear hd ht HDq7 HGq7
              go_wp2_with fail
              have HRd := Lib.hid (crash_read N L d ks x7 HGo.out h1)
              obtain ⟨hrl, hrv⟩ := HRd.out
              have hrd := read_ok HDq8.out 0 hrl rfl
              rw [hrv] at hrd
              refine (show Calls Try.prog 19 #[.pointer (some ⟨B, 0, none⟩), .int .i64 0] _ _ from hrd).mono ?_
              clear hrd hrv hrl HRd
              intro e q9 hpost
              obtain ⟨he, hg⟩ := hpost
              subst he
              have HGq9 := Lib.hid (Grow.trans HGq8.out hg)
              clear hg HGq8 HDq8
              go_wp2_with (refine wpList_store_row rfl 32 _ _ rfl q9.heap.size (bc x7).toArray rfl rfl 32 Z (heap_alloc_last _ _) HSz7.out HSo7.out HO7.out ?_)
              have ht : Touch [] q9 ((q9.alloc (.cells Z 32)).setRow q9.heap.size (bc x7).toArray) := Touch.of_below (below_setRow ((Below.refl _ _).alloc (Nat.le_refl _) _) (Nat.le_refl _) _)
              have HX := Lib.hid (show q9.heap.size < ((q9.alloc (.cells Z 32)).setRow q9.heap.size (bc x7).toArray).heap.size ∧ ((q9.alloc (.cells Z 32)).setRow q9.heap.size (bc x7).toArray).heap[q9.heap.size]? = some (.cells (bc x7).toArray 32 (0, 0)) from ⟨by simp, setRow_heap _ _ _ _ _ _ (heap_alloc_last _ _)⟩)
              have HGs := Lib.hid (Grow.trans HGq9.out (ht.below (Nat.le_refl _) (by simp)))
              clear ht HGq9
              generalize (q9.alloc (.cells Z 32)).setRow q9.heap.size (bc x7).toArray = qa at *
              obtain ⟨P, hP⟩ : ∃ P, P = q9.heap.size := ⟨_, rfl⟩
              rw [← hP] at HX
              rw [← hP]
              clear hP
              go_upto_region 40 with (fail)
              refine cre_reg P (bc x7).toArray qa HX HSz7 (Lib.hid (equal32 x7 HL7.out)) HF7 _ _ _ _ _ _ _ _ _ _ _ _ _ _ _ _ _ _ _ _ _ _ _ _ _ _ _ _ _ _ _ _ _ _ _ _ _ _ _ _ _ _ _ _ _ _ _ _ _ _ _ _ _ _ _ _ _ _ _ _ _ _ _ _ _ _ _ _ _ _ _ _ _ _ _ _ _ _ _ _ _ _ _ _ _ _ _ _ _ _ _ _ _ _ _ _ _ _ _ _ _ _ _ _ _ _ _ _ _ _ _ _ _ _ _ _ _ _ _ _ _ _ _ _ _ _ _ _ _ _ _ _ _ _ _ _ _ _ _ _ _ _ _ _ _ _ _ _ _ _ _ _ _ _ _ _ _ _ _ _ _ _ _ _ _ _ _ _ _ _ _ _ _ _ _ _ _ _ _ _ _ _ _ _ _ _ _ _ _ _ (Lib.hid ?_)
              intro z181 z182 z183 z184 z185 z186 z187 z188 z189 z190 wz hgz
              have HGf := Lib.hid (Grow.trans HGs.out hgz)
              clear hgz
              go_wp2_with fail
              go_ret
              exact ⟨rfl, HGf.out⟩
end Go.Proofs.Ytkcbjhdklenlbaa
