/- The law DiskEnds: the walk. -/
import Derived.Test.YtkcbjhdklenlbaaD25
set_option linter.unusedVariables false
set_option linter.unusedSimpArgs false
namespace Go.Proofs.Ytkcbjhdklenlbaa
open Go.RowKit

/-- a disk whose power goes behind a acts, of which m were done -/
structure Ending1 (N a m : Nat) (d : DS) : Prop where
  safe : d.safe = noughts N
  acts : d.acts = (m : Int)
  set : d.set = true
  left : d.left = (a : Int) - (m : Int)
  ws : d.ws.length = m
  wlt : ∀ p ∈ d.ws, p.1 < N
theorem Ending1.dead {N a m : Nat} {d : DS} (h : Ending1 N a m d) (hm : m ≤ a) : d.dead = decide (a ≤ m) := by
  unfold DS.dead
  rw [h.set, h.left, Bool.true_and]
  by_cases c : a ≤ m
  · obtain rfl : a = m := by omega
    simp
  · rw [decide_eq_false c]
    simp
    omega
theorem Ending1.why {N a m : Nat} {d : DS} (h : Ending1 N a m d) (hm : m ≤ a) (b : Int) (hb : 0 ≤ b ∧ b < N) : d.why b = if a ≤ m then 30 else 0 := by
  unfold DS.why
  rw [h.dead hm, h.safe, noughts_length, if_pos hb]
  by_cases c : a ≤ m
  · simp [c]
  · simp [c]
theorem Ending1.wrote {N a m : Nat} {d : DS} (h : Ending1 N a m d) (hm : m < a) (b : Int) (hb : 0 ≤ b ∧ b < N) (x : Blk) : Ending1 N a (m + 1) (d.tried b x) := by
  unfold DS.tried
  rw [h.why (by omega) b hb, if_neg (show ¬ a ≤ m by omega), if_pos rfl]
  constructor
  · exact h.safe
  · show d.acts + 1 = _
    rw [h.acts]; omega
  · exact h.set
  · show (if d.set = true then d.left - 1 else d.left) = _
    rw [if_pos h.set, h.left]; omega
  · show (d.ws ++ [(b.toNat, x)]).length = _
    rw [List.length_append, h.ws]; rfl
  · intro p hp
    rcases List.mem_append.1 (show p ∈ d.ws ++ [(b.toNat, x)] from hp) with h1 | h1
    · exact h.wlt p h1
    · rw [List.mem_singleton.1 h1]; show b.toNat < N; omega
theorem Ending1.over {N a m : Nat} {d : DS} (h : Ending1 N a m d) (hm : m = a) (b : Int) (hb : 0 ≤ b ∧ b < N) (x : Blk) : Ending1 N a m (d.tried b x) := by
  unfold DS.tried
  rw [h.why (by omega) b hb, if_pos (show a ≤ m by omega), if_neg (show ¬ (30 : Int) = 0 by omega)]
  exact h
theorem Ending1.new (N a : Nat) : Ending1 N a 0 ((newD N).powered (a : Int)) :=
  { safe := rfl
    acts := rfl
    set := by simp [DS.powered]
    left := by simp [DS.powered]
    ws := rfl
    wlt := fun p hp => by cases hp }
theorem zeroB_length : zeroB.length = 256 := by unfold zeroB; rw [List.length_replicate]
theorem guard32z (x y : Operand) (w : World) : (eqGuard .eql 32 x y (.agg (bc zeroB).toArray) (.agg (bc zeroB).toArray)).run Try.prog w = .ok () w := guard32e x y _ _ w
theorem wp_build0 {P : Program} {o : Oper} {a : Act} {w : World} {K : Act → World → Prop} {Q : Exit → Act → World → Prop} (t : TypeId) {Z : Array Value} (ho : o.op = .build t #[]) (hf : P.built t [] = some Z) (h : K (a.put o.dst (.agg Z)) w) : o.wp P a w K Q := by
  have he : (((#[] : Array (Nat × Operand)).map fun (i, x) => (i, a.eval x)).toList) = [] := by simp
  refine wp_build t _ ho ?_ ?_
  · rw [he, hf]; rfl
  · rw [he, hf]; exact h
theorem flush_dead {w : World} {B : Nat} {S : List Nat} {d : DS} (h : IsDisk w B S d) (hd : d.dead = true) : Calls Try.prog 24 #[.pointer (some ⟨B, 0, none⟩)] w fun e w' => e = .returned (.int .i64 30) ∧ w = w' := by
  have HD := Lib.hid h
  have HX := Lib.hid hd
  clear h hd
  go_enter Try.func24, Try.ntmps24
  go_wp2_with fail
  refine (refuse_dead HD.out HX.out).mono ?_
  rintro e w' ⟨rfl, rfl⟩
  go_wp2_with fail
  go_ret
  exact ⟨rfl, rfl⟩
/-- what stands ahead of each round -/
structure EInv (N a : Nat) (w : World) (B m : Nat) (d : DS) (S : List Nat) (wr : World) : Prop where
  disk : IsDisk wr B S d
  ends : Ending1 N a m d
  lo : ∀ j ∈ S, w.heap.size ≤ j
  grow : Grow w wr
theorem EInv.step {N a : Nat} {w : World} {B m m' : Nat} {d d' : DS} {S S' : List Nat} {wr wz : World} (h : EInv N a w B m d S wr) (ht : Touch S wr wz) (hd : IsDisk wz B S' d') (hS : ∀ k ∈ S', k ∈ S ∨ wr.heap.size ≤ k) (he : Ending1 N a m' d') : EInv N a w B m' d' S' wz :=
  { disk := hd
    ends := he
    lo := fun j hj => by rcases hS j hj with h1 | h1; exact h.lo j h1; have := h.grow.size; omega
    grow := Below.trans h.grow (ht.below h.grow.size h.lo) }
set_option maxRecDepth 100000 in
set_option maxHeartbeats 4000000 in
theorem ends_walk (n a : Int) (hn : -9223372036854775808 ≤ n ∧ n ≤ 9223372036854775807) (ha : -9223372036854775808 ≤ a ∧ a ≤ 9223372036854775807) {w : World} {v : Value} {l : List (Int × Nat)} (hp : Puts w v l) (hl : l.length ≤ 9223372036854775807) :
    Calls Try.prog 5 #[.int .i64 n, .int .i64 a, v] w fun e w' => e = .returned (.bool true) ∧ Below w.heap.size w w' := by
  obtain ⟨ad, cap, rfl, hc⟩ := hp
  by_cases h3 : 300 < l.length
  · generalize l.length = L at *
    clear hc
    have d0 : decide ((300 : Int) < (L : Int)) = true := by simp; omega
    go_enter Try.func5, Try.ntmps5
    go_wp2_with fail
    go_ret
    exact ⟨rfl, Below.refl _ _⟩
  · obtain ⟨N, hN⟩ : ∃ N : Nat, (N : Int) = 1 + n % 64 := ⟨(1 + n % 64).toNat, by omega⟩
    obtain ⟨A, hA⟩ : ∃ A : Nat, (A : Int) = a % 18446744073709551616 % 51 := ⟨(a % 18446744073709551616 % 51).toNat, by omega⟩
    have h1 : 1 ≤ N := by omega
    have h2 : N ≤ 2048 := by omega
    have hA2 : A ≤ 50 := by omega
    have hcv := written_cv n N hN
    have hca : IntKind.i64.wrap ((IntKind.u64.wrap a).tmod 51) = (A : Int) := by
      rw [IntKind.wrap_u64, Int.tmod_eq_emod_of_nonneg (by omega), ← hA]
      rw [IntKind.wrap_i64]; omega
    have HP := Lib.hid hc
    obtain ⟨L, hL⟩ : ∃ L, L = l.length := ⟨_, rfl⟩
    rw [← hL] at h3 ⊢
    have HL := Lib.hid hL
    have d0 : decide ((300 : Int) < (L : Int)) = false := by simp; omega
    have HN64 := Lib.hid (show N ≤ 64 by omega)
    clear hn hN ha hA hL hl hc
    go_enter Try.func5, Try.ntmps5
    go_wp2_with fail
    rw [hcv]
    refine (new_ok N h1 h2 _).mono ?_
    intro e w1 hpost
    obtain ⟨B, S, he, hd, hg, hS⟩ := hpost
    subst he
    have HD := Lib.hid hd
    have HG := Lib.hid hg
    have HS := Lib.hid hS
    clear hd hg hS
    go_wp2_with fail
    refine (power_any HD.out (A : Int)).mono ?_
    intro e w2 hpost
    obtain ⟨⟨ve, he⟩, hd, ht⟩ := hpost
    subst he
    have hBS : B ∈ S := by obtain ⟨gs, cs, gl, cl, vw, h⟩ := HD.out; exact h.inB
    have HI := Lib.hid (show EInv N A w B 0 ((newD N).powered (A : Int)) S w2 from
      { disk := hd, ends := Ending1.new N A, lo := HS.out, grow := Below.trans HG.out (ht.below HG.out.size (fun k hk => by rw [List.mem_singleton.1 hk]; exact HS.out B hBS)) })
    clear hd ht hBS HD HG HS
    go_wp2_with fail
    go_loopw [9, 10] (fun t9 t10 wr => ∃ (k m : Nat) (d : DS) (S' : List Nat), k ≤ L ∧ t9 = .int .i64 (m : Int) ∧ t10 = .int .i64 (k : Int) ∧ m ≤ A ∧ Hid (EInv N A w B m d S' wr)) (fun t9 t10 _ => L - (intOf t10).toNat)
    case atStart => exact ⟨0, 0, _, S, by omega, rfl, rfl, by omega, HI⟩
    case round =>
      obtain ⟨k, m, d, S', hk, rfl, rfl, hm, HI⟩ := hrel
      by_cases hlt : k < L
      · have hkl : k < l.length := by rw [← HL.out]; exact hlt
        obtain ⟨p, hpk⟩ : ∃ p, l[k]? = some p := ⟨l[k], by simp [hkl]⟩
        obtain ⟨b, f⟩ := p
        obtain ⟨y, rfl, hyb, hc0, hc1, hf, hb0, hb1⟩ := HP.out k (b, f) hpk
        have hI := HI.out
        have hyS : y.block ∉ S' := fun hm => by have := hI.lo _ hm; omega
        have HC0 := Lib.hid ((hI.grow.cell (p := y.add (k * 2)) (by rw [add_block]; exact hyb)).trans hc0)
        have HC1 := Lib.hid ((hI.grow.cell (p := (y.add (k * 2)).add 1) (by rw [add_block, add_block]; exact hyb)).trans hc1)
        have HYS := Lib.hid hyS
        have HYL := Lib.hid (Nat.lt_of_lt_of_le hyb hI.grow.size)
        have HF := Lib.hid hf
        have HWS := Lib.hid (show d.ws.length ≤ 100000 by rw [hI.ends.ws]; omega)
        have HA := Lib.hid (show 0 ≤ d.acts ∧ d.acts ≤ 1000000 by rw [hI.ends.acts]; omega)
        have HLL := Lib.hid (show 0 ≤ d.left ∧ d.left ≤ 9223372036854775807 by rw [hI.ends.left]; omega)
        have HDD := Lib.hid hI.disk
        obtain ⟨bu, hbu⟩ : ∃ bu, IntKind.u64.wrap b = bu := ⟨_, rfl⟩
        have hbu2 : 0 ≤ bu ∧ bu < 18446744073709551616 := by rw [← hbu, IntKind.wrap_u64]; omega
        obtain ⟨c, hc⟩ : ∃ c, bu.tmod (N : Int) = c := ⟨_, rfl⟩
        have hc' : 0 ≤ c ∧ c < (N : Int) := by
          rw [← hc, Int.tmod_eq_emod_of_nonneg hbu2.1]
          exact ⟨Int.emod_nonneg _ (by omega), Int.emod_lt_of_pos _ (by omega)⟩
        have HCB := Lib.hid hc'
        have HE1 := Lib.hid hbu
        have HE2 := Lib.hid (show IntKind.u64.wrap (N : Int) = (N : Int) by rw [IntKind.wrap_u64]; omega)
        have HE3 := Lib.hid hc
        have HE4 := Lib.hid (show N ≠ 0 by omega)
        have HE5 := Lib.hid (show IntKind.i64.wrap c = c by rw [IntKind.wrap_i64]; omega)
        clear hI hyS hf hpk hc0 hc1 hyb hbu hbu2 hc hc' hb0 hb1 hkl
        go_upto_region 13 with (fail)
        refine ends_reg B S' d y L cap k f N b bu c HE1 HE2 HE3 HE4 HE5 wr HDD HC0 HC1 HYL HYS HF hlt HWS HA HLL _ _ _ _ _ _ _ _ _ _ _ _ _ _ _ _ _ _ _ _ _ _ _ _ _ _ _ _ _ _ _ _ _ _ _ _ _ _ _ _ _ _ _ _ _ _ _ _ _ _ _ _ _ _ _ _ _ _ _ _ _ _ _ _ _ _ _ _ _ _ _ _ _ _ _ _ _ _ _ _ _ _ _ _ _ _ _ _ _ _ _ _ _ _ _ _ _ _ _ _ _ _ _ _ _ _ _ _ _ _ _ _ _ _ _ _ _ _ _ _ _ _ _ _ _ _ _ _ _ _ _ _ _ _ _ _ _ _ (Lib.hid ?_)
        intro y44 y45 y46 y47 y48 y49 y50 y51 y52 y53 y54 y55 y56 y57 y58 y59 y60 y61 wz ht hex
        obtain ⟨S2, hd2, hS2⟩ := hex
        have hwy := HI.out.ends.why hm c HCB.out
        by_cases ham : A ≤ m
        · have HI2 := Lib.hid (HI.out.step ht hd2 hS2 (HI.out.ends.over (by omega) c HCB.out (fillB f)))
          rw [if_pos ham] at hwy
          rw [hwy]
          have e1 : decide ((m : Int) < (A : Int)) = false := by simp; omega
          have e2 : decide ((A : Int) ≤ (m : Int)) = true := by simp; omega
          clear ht hd2 hS2 hwy HI HC0 HC1
          go_wp2_with fail
          go_roundw
          case rel => exact ⟨k + 1, m, _, S2, by omega, rfl, by go_num, hm, HI2⟩
          case measure => simp [intOf]; omega
        · have HI2 := Lib.hid (HI.out.step ht hd2 hS2 (HI.out.ends.wrote (by omega) c HCB.out (fillB f)))
          rw [if_neg ham] at hwy
          rw [hwy]
          have e1 : decide ((m : Int) < (A : Int)) = true := by simp; omega
          have e2 : decide ((A : Int) ≤ (m : Int)) = false := by simp; omega
          clear ht hd2 hS2 hwy HI HC0 HC1
          go_wp2_with fail
          go_roundw
          case rel => exact ⟨k + 1, m + 1, _, S2, by omega, by go_num, by go_num, by omega, HI2⟩
          case measure => simp [intOf]; omega
      · obtain rfl : L = k := by omega
        have hI := HI.out
        have HZ := Lib.hid (show (bc zeroB).toArray.size = 256 from zero_size)
        have HB := Lib.hid (show Try.prog.built 32 [] = some (bc zeroB).toArray by kernel_rfl)
        have hz := zero32
        have HOZ := Lib.hid (show (bc zeroB).toArray.all (·.oneCell') = true from all_oneCell_toArray (bc_one _))
        have hq0 := eql32 zeroB zeroB_length
        have hg0 := guard32z
        obtain ⟨Z, hZ⟩ : ∃ Z, Z = (bc zeroB).toArray := ⟨_, rfl⟩
        rw [← hZ] at HZ HB HOZ hz hq0 hg0
        have HSzZ := Lib.hid (show (Try.prog.info? 32).map (·.size) = some Z.size by rw [HZ.out]; exact size32)
        have HZE := Lib.hid hZ
        obtain ⟨K, hK⟩ : ∃ K : Nat, N = K + 1 := ⟨N - 1, by omega⟩
        have HKN := Lib.hid hK
        have HKw := Lib.hid (show (N : Int) - 1 = (K : Int) by omega)
        have HDk := Lib.hid hI.disk
        have HSf := Lib.hid hI.ends.safe
        have HAc := Lib.hid hI.ends.acts
        have HDe := Lib.hid (hI.ends.dead hm)
        have HWs := Lib.hid (show ∀ p ∈ d.ws, p.1 < d.safe.length by rw [HSf.out, noughts_length]; exact hI.ends.wlt)
        have HWl := Lib.hid (show d.ws.length ≤ 1000000 by rw [hI.ends.ws]; omega)
        have HGk := Lib.hid hI.grow
        have HLo := Lib.hid hI.lo
        have HWY := Lib.hid (hI.ends.why hm 0 ⟨by omega, by omega⟩)
        have HLa := Lib.hid (show 0 < d.last.length by obtain ⟨gs, cs, gl, cl, vw, h⟩ := hI.disk; rw [h.len]; exact h.one)
        have HCr := Lib.hid (show (d.crashed []).last = noughts N by show applyW d.safe (kept d.ws []) = _; rw [show kept d.ws [] = [] from by cases d.ws <;> rfl, HSf.out]; rfl)
        clear hI HI hZ hK
        by_cases ham : A ≤ m
        · rw [decide_eq_true ham] at HDe
          rw [if_pos ham] at HWY
          have e2 : decide ((A : Int) ≤ (m : Int)) = true := by simp; omega
          go_wp2_with fail
          refine (read_refused 0 30 rfl (fun w' hg => HWY.out ▸ refuseAt_any (HDk.out.kept (Touch.of_below (S := []) hg) (by simp)) 0)).mono ?_
          intro e W4 hpost
          obtain ⟨he, hg4⟩ := hpost
          subst he
          rw [← HZE.out]
          have HD4 := Lib.hid (HDk.out.kept (Touch.of_below (S := []) hg4) (by simp))
          have HG4 := Lib.hid (Grow.trans HGk.out hg4)
          clear hg4 HDk HGk
          go_wp2_with (refine wpList_store_row rfl 32 _ _ rfl W4.heap.size Z rfl rfl 32 Z (heap_alloc_last _ _) HSzZ.out rfl HOZ.out ?_)
          have ht5 : Touch [] W4 ((W4.alloc (.cells Z 32)).setRow W4.heap.size Z) := Touch.of_below (below_setRow ((Below.refl _ _).alloc (Nat.le_refl _) _) (Nat.le_refl _) _)
          have HD5 := Lib.hid (HD4.out.kept ht5 (by simp))
          have HG5 := Lib.hid (Grow.trans HG4.out (ht5.below (Nat.le_refl _) (by simp)))
          clear HD4 HG4 ht5
          generalize (W4.alloc (.cells Z 32)).setRow W4.heap.size Z = W5 at *
          refine (dead_any HD5.out).mono ?_
          intro e w' hpost
          obtain ⟨he, hw⟩ := hpost
          subst he hw
          rw [HDe.out]
          go_wp2_with fail
          refine (acts_any HD5.out).mono ?_
          intro e w' hpost
          obtain ⟨he, hw⟩ := hpost
          subst he hw
          rw [HAc.out]
          go_wp2_with fail
          refine (dead_any HD5.out).mono ?_
          intro e w' hpost
          obtain ⟨he, hw⟩ := hpost
          subst he hw
          rw [HDe.out]
          go_wp2_with fail
          refine (dead_any HD5.out).mono ?_
          intro e w' hpost
          obtain ⟨he, hw⟩ := hpost
          subst he hw
          rw [HDe.out]
          go_wp2_with fail
          refine (flush_dead HD5.out HDe.out).mono ?_
          intro e w' hpost
          obtain ⟨he, hw⟩ := hpost
          subst he hw
          go_wp2_with fail
          refine (crash_ok HD5.out _ [] (Bools.nil _ _) (Nat.zero_le _) HWs.out HWl.out).mono ?_
          intro e w6 hpost
          obtain ⟨⟨ve, he⟩, hd, ht⟩ := hpost
          subst he
          have HD6 := Lib.hid hd
          have HG6 := Lib.hid (Below.trans HG5.out (ht.below HG5.out.size HLo.out))
          clear hd ht HD5 HG5
          go_wp2_with fail
          rw [HKw.out]
          have HKL := Lib.hid (show K < (d.crashed []).last.length by rw [HCr.out, noughts_length, HKN.out]; omega)
          have hrd := read_ok HD6.out K HKL.out rfl
          rw [show (d.crashed []).last[K]'HKL.out = zeroB by simp only [HCr.out]; unfold noughts; rw [List.getElem_replicate], ← HZE.out] at hrd
          refine hrd.mono ?_
          clear hrd
          intro e W7 hpost
          obtain ⟨he, hg7⟩ := hpost
          subst he
          have HD7 := Lib.hid (HD6.out.kept (Touch.of_below (S := []) hg7) (by simp))
          have HG7 := Lib.hid (Grow.trans HG6.out hg7)
          clear hg7 HD6 HG6
          go_wp2_with (refine wpList_store_row rfl 32 _ _ rfl W7.heap.size Z rfl rfl 32 Z (heap_alloc_last _ _) HSzZ.out rfl HOZ.out ?_)
          have ht8 : Touch [] W7 ((W7.alloc (.cells Z 32)).setRow W7.heap.size Z) := Touch.of_below (below_setRow ((Below.refl _ _).alloc (Nat.le_refl _) _) (Nat.le_refl _) _)
          have HX8 := Lib.hid (show ((W7.alloc (.cells Z 32)).setRow W7.heap.size Z).heap[W7.heap.size]? = some (.cells Z 32 (0, 0)) from setRow_heap _ _ _ _ _ _ (heap_alloc_last _ _))
          have HD8 := Lib.hid (HD7.out.kept ht8 (by simp))
          have HG8 := Lib.hid (Grow.trans HG7.out (ht8.below (Nat.le_refl _) (by simp)))
          clear HD7 HG7 ht8
          generalize (W7.alloc (.cells Z 32)).setRow W7.heap.size Z = W8 at *
          refine (dead_any HD8.out).mono ?_
          intro e w' hpost
          obtain ⟨he, hw⟩ := hpost
          subst he hw
          rw [show (d.crashed []).dead = false from rfl]
          go_wp2_with fail
          refine wp_load_row 32 _ rfl W7.heap.size rfl 32 Z (0, 0) _ HX8.out Try.underlying32 rfl HSzZ.out ?_
          go_wp2_with fail
          refine (waiting_any HD8.out).mono ?_
          intro e w' hpost
          obtain ⟨he, hw⟩ := hpost
          subst he hw
          rw [show (d.crashed []).ws = [] from rfl]
          go_wp2_with fail
          go_ret
          exact ⟨rfl, HG8.out⟩
        · rw [decide_eq_false ham] at HDe
          rw [if_neg ham] at HWY
          have e2 : decide ((A : Int) ≤ (m : Int)) = false := by simp; omega
          go_wp2_with fail
          have hrd := read_ok HDk.out 0 HLa.out HDe.out
          obtain ⟨x, hxx⟩ : ∃ x, x = d.last[0]'HLa.out := ⟨_, rfl⟩
          have hx : x.length = 256 := by obtain ⟨gs, cs, gl, cl, vw, h⟩ := HDk.out; rw [hxx]; exact h.last.len256 _ (List.getElem_mem _)
          rw [← hxx] at hrd
          have HXs := Lib.hid (show (bc x).length = 256 by rw [bc_length]; exact hx)
          have HSz := Lib.hid (show (Try.prog.info? 32).map (·.size) = some (bc x).toArray.size by rw [List.size_toArray, HXs.out]; exact size32)
          have HO := Lib.hid (show (bc x).toArray.all (·.oneCell') = true from all_oneCell_toArray (bc_one _))
          have HSo := Lib.hid (HZ.out.trans (show 256 = (bc x).toArray.size by rw [List.size_toArray, HXs.out]))
          clear hx hxx
          refine hrd.mono ?_
          clear hrd
          intro e W4 hpost
          obtain ⟨he, hg4⟩ := hpost
          subst he
          have HD4 := Lib.hid (HDk.out.kept (Touch.of_below (S := []) hg4) (by simp))
          have HG4 := Lib.hid (Grow.trans HGk.out hg4)
          clear hg4 HDk HGk
          go_wp2_with (refine wpList_store_row rfl 32 _ _ rfl W4.heap.size (bc x).toArray rfl rfl 32 Z (heap_alloc_last _ _) HSz.out HSo.out HO.out ?_)
          have ht5 : Touch [] W4 ((W4.alloc (.cells Z 32)).setRow W4.heap.size (bc x).toArray) := Touch.of_below (below_setRow ((Below.refl _ _).alloc (Nat.le_refl _) _) (Nat.le_refl _) _)
          have HD5 := Lib.hid (HD4.out.kept ht5 (by simp))
          have HG5 := Lib.hid (Grow.trans HG4.out (ht5.below (Nat.le_refl _) (by simp)))
          clear HD4 HG4 ht5
          generalize (W4.alloc (.cells Z 32)).setRow W4.heap.size (bc x).toArray = W5 at *
          refine (dead_any HD5.out).mono ?_
          intro e w' hpost
          obtain ⟨he, hw⟩ := hpost
          subst he hw
          rw [HDe.out]
          go_wp2_with fail
          refine (acts_any HD5.out).mono ?_
          intro e w' hpost
          obtain ⟨he, hw⟩ := hpost
          subst he hw
          rw [HAc.out]
          go_wp2_with fail
          refine (dead_any HD5.out).mono ?_
          intro e w' hpost
          obtain ⟨he, hw⟩ := hpost
          subst he hw
          rw [HDe.out]
          go_wp2_with fail
          refine (dead_any HD5.out).mono ?_
          intro e w' hpost
          obtain ⟨he, hw⟩ := hpost
          subst he hw
          rw [HDe.out]
          go_wp2_with fail
          refine (crash_ok HD5.out _ [] (Bools.nil _ _) (Nat.zero_le _) HWs.out HWl.out).mono ?_
          intro e w6 hpost
          obtain ⟨⟨ve, he⟩, hd, ht⟩ := hpost
          subst he
          have HD6 := Lib.hid hd
          have HG6 := Lib.hid (Below.trans HG5.out (ht.below HG5.out.size HLo.out))
          clear hd ht HD5 HG5
          go_wp2_with fail
          rw [HKw.out]
          have HKL := Lib.hid (show K < (d.crashed []).last.length by rw [HCr.out, noughts_length, HKN.out]; omega)
          have hrd := read_ok HD6.out K HKL.out rfl
          rw [show (d.crashed []).last[K]'HKL.out = zeroB by simp only [HCr.out]; unfold noughts; rw [List.getElem_replicate], ← HZE.out] at hrd
          refine hrd.mono ?_
          clear hrd
          intro e W7 hpost
          obtain ⟨he, hg7⟩ := hpost
          subst he
          have HD7 := Lib.hid (HD6.out.kept (Touch.of_below (S := []) hg7) (by simp))
          have HG7 := Lib.hid (Grow.trans HG6.out hg7)
          clear hg7 HD6 HG6
          go_wp2_with (refine wpList_store_row rfl 32 _ _ rfl W7.heap.size Z rfl rfl 32 Z (heap_alloc_last _ _) HSzZ.out rfl HOZ.out ?_)
          have ht8 : Touch [] W7 ((W7.alloc (.cells Z 32)).setRow W7.heap.size Z) := Touch.of_below (below_setRow ((Below.refl _ _).alloc (Nat.le_refl _) _) (Nat.le_refl _) _)
          have HX8 := Lib.hid (show ((W7.alloc (.cells Z 32)).setRow W7.heap.size Z).heap[W7.heap.size]? = some (.cells Z 32 (0, 0)) from setRow_heap _ _ _ _ _ _ (heap_alloc_last _ _))
          have HD8 := Lib.hid (HD7.out.kept ht8 (by simp))
          have HG8 := Lib.hid (Grow.trans HG7.out (ht8.below (Nat.le_refl _) (by simp)))
          clear HD7 HG7 ht8
          generalize (W7.alloc (.cells Z 32)).setRow W7.heap.size Z = W8 at *
          refine (dead_any HD8.out).mono ?_
          intro e w' hpost
          obtain ⟨he, hw⟩ := hpost
          subst he hw
          rw [show (d.crashed []).dead = false from rfl]
          go_wp2_with fail
          refine wp_load_row 32 _ rfl W7.heap.size rfl 32 Z (0, 0) _ HX8.out Try.underlying32 rfl HSzZ.out ?_
          go_wp2_with fail
          refine (waiting_any HD8.out).mono ?_
          intro e w' hpost
          obtain ⟨he, hw⟩ := hpost
          subst he hw
          rw [show (d.crashed []).ws = [] from rfl]
          go_wp2_with fail
          go_ret
          exact ⟨rfl, HG8.out⟩
#print axioms ends_walk
end Go.Proofs.Ytkcbjhdklenlbaa
