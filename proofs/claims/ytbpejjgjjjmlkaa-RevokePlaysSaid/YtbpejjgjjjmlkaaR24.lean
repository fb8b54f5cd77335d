/- The law RevokePlays: the walk. -/
import Derived.Test.YtbpejjgjjjmlkaaR22
import Derived.Test.YtbpejjgjjjmlkaaR23
set_option linter.unusedVariables false
set_option linter.unusedSimpArgs false
namespace Go.Proofs.Ytbpejjgjjjmlkaa
open Go.RowKit Go.Maps

structure PInv (w : World) (B bm R k : Nat) (wr : World) : Prop where
  both : ∃ vl m, Both wr B bm R k vl m
  bl : w.heap.size ≤ B
  bml : w.heap.size ≤ bm
  rl : w.heap.size ≤ R
  grow : Grow w wr
theorem PInv.step {w : World} {B bm R k : Nat} {wr wz : World} (h : PInv w B bm R k wr) (ht : Touch [bm, R] wr wz) (hB : ∃ vl m, Both wz B bm R (k + 1) vl m) : PInv w B bm R (k + 1) wz :=
  { both := hB, bl := h.bl, bml := h.bml, rl := h.rl, grow := Below.trans h.grow (ht.below h.grow.size (by have := h.bml; have := h.rl; simp; omega)) }
theorem PInv.later {w : World} {B bm R k : Nat} {wr wz : World} (h : PInv w B bm R k wr) (ht : Touch [] wr wz) : PInv w B bm R k wz :=
  { h with both := h.both.elim fun vl h1 => h1.elim fun m h2 => ⟨vl, m, h2.kept0 ht⟩, grow := Below.trans h.grow (ht.below h.grow.size (by simp)) }
theorem PInv.start {w w1 : World} {B bm : Nat} (ht : Tab w1 B bm 0 []) (hg : Grow w w1) (h1 : w.heap.size ≤ B) (h2 : w.heap.size ≤ bm) : PInv w B bm w1.heap.size 0 (w1.alloc (.cells #[.slice none 0 0] 42)) where
  both := ⟨.slice none 0 0, [], { tab := ht.kept (Touch.alloc [] w1 _) (by simp) (by simp), rtab := ⟨heap_alloc_last w1 _, rowNil _ _ _, fun g e => (by cases e)⟩, rb := (by have := ht.lt; omega), rbm := (by have := ht.lt; omega), ob := fun g e => (by cases e), len := Nat.le_refl _ }⟩
  bl := h1
  bml := h2
  rl := hg.size
  grow := Below.trans hg ((Touch.alloc [] w1 _).below hg.size (by simp))
theorem Both.nodup {w : World} {B bm R k : Nat} {vl : Value} {m : List Rc} (h : Both w B bm R k vl m) : m.Nodup := by
  obtain ⟨D, _, hs⟩ := h.tab.map
  exact hs.nodup
set_option maxRecDepth 100000 in
set_option maxHeartbeats 4000000 in
theorem plays_walk {w : World} {v : Value} {l : List QP} (hp : ActsIn w v l) (hl : l.length ≤ 9223372036854775807) (b : Int) (s : Nat) (hs : s < 4294967296) :
    Calls Try.prog 5 #[v, .int .i64 b, .int .u32 (s : Int)] w fun e w' => e = .returned (.bool true) ∧ Below w.heap.size w w' := by
  obtain ⟨ad, cap, rfl, hc⟩ := hp
  have HP := Lib.hid hc
  obtain ⟨L, hL⟩ : ∃ L, L = l.length := ⟨_, rfl⟩
  rw [← hL] at hl ⊢
  have HL := Lib.hid hL
  clear hc hL
  by_cases h3 : 200 < L
  · have d0 : decide ((200 : Int) < (L : Int)) = true := by simp; omega
    go_enter Try.func5, Try.ntmps5
    go_wp2_with fail
    go_ret
    exact ⟨rfl, Grow.refl _⟩
  · have d0 : decide ((200 : Int) < (L : Int)) = false := by simp; omega
    go_enter Try.func5, Try.ntmps5
    go_wp2_with fail
    refine (new_ok _).mono ?_
    intro e w1 hpost
    obtain ⟨B, bm, he, ht1, hg, h1, h2⟩ := hpost
    subst he
    have HI := Lib.hid (PInv.start ht1 hg h1 h2)
    clear ht1 hg h1 h2
    go_wp2_with fail
    obtain ⟨R, hR⟩ : ∃ R, w1.heap.size = R := ⟨_, rfl⟩
    rw [hR] at HI ⊢
    generalize w1.alloc (.cells #[.slice none 0 0] 42) = W0 at *
    clear hR
    go_loopw [9] (fun t9 wr => ∃ (k : Nat), k ≤ L ∧ t9 = .int .i64 (k : Int) ∧ Hid (PInv w B bm R k wr)) (fun t9 _ => L - (intOf t9).toNat)
    case atStart => exact ⟨0, by omega, rfl, HI⟩
    case round =>
      obtain ⟨k, hk, rfl, HI⟩ := hrel
      by_cases hlt : k < L
      · have hkl : k < l.length := by rw [← HL.out]; exact hlt
        obtain ⟨p, hpk⟩ : ∃ p, l[k]? = some p := ⟨l[k], by simp [hkl]⟩
        obtain ⟨y, rfl, hyb, hc0, hc1, hc2, hok, hq0, hq1⟩ := HP.out k p hpk
        obtain ⟨q, pb, ps⟩ := p
        obtain ⟨vl, m, hm⟩ := HI.out.both
        have HB := Lib.hid hm
        have hI := HI.out
        have HC0 := Lib.hid ((hI.grow.cell (p := y.add (k * 3)) (by rw [add_block]; exact hyb)).trans hc0)
        have HC1 := Lib.hid ((hI.grow.cell (p := (y.add (k * 3)).add 1) (by rw [add_block, add_block]; exact hyb)).trans hc1)
        have HC2 := Lib.hid ((hI.grow.cell (p := (y.add (k * 3)).add 2) (by rw [add_block, add_block]; exact hyb)).trans hc2)
        have HYL := Lib.hid (Nat.lt_of_lt_of_le hyb hI.grow.size)
        have HYM := Lib.hid (show y.block ∉ [bm, R] by have := hI.bml; have := hI.rl; simp; omega)
        have HD := Lib.hid (show ∀ wq, Both wq B bm R k vl m → _ from fun wq hq => does_ok hq (by omega) q pb ps hok ⟨hq0, hq1⟩)
        have hps : ps < 4294967296 := hok.2.2
        obtain ⟨m', hm'⟩ : ∃ m', stepA m (q, pb, ps) = m' := ⟨_, rfl⟩
        rw [hm'] at HD
        clear hI hpk hc0 hc1 hc2 hyb hkl hm hok hm' hq0 hq1
        go_upto_region 10 with (fail)
        refine plays10_reg B bm R k vl m m' y L cap k ps q pb wr HB HC0 HC1 HC2 HYL HYM hlt HD _ _ _ _ _ _ _ _ _ _ _ _ _ _ _ _ _ _ _ _ _ _ _ _ _ _ _ _ _ _ _ _ _ _ _ _ _ _ _ _ _ _ _ _ _ _ _ _ _ _ _ _ _ _ _ _ _ _ _ _ _ _ _ _ _ _ _ _ _ _ _ _ _ _ _ _ _ _ _ _ _ _ _ _ _ _ _ _ _ _ _ _ _ _ _ _ _ _ _ _ _ _ _ _ _ _ _ _ _ _ _ _ _ _ _ _ _ _ _ _ _ (Lib.hid ?_)
        intro u28 u29 u30 u31 u32 u33 u34 u35 u36 u37 u38 u39 u40 u41 u42 u43 u44 wz ht2 hB2
        obtain ⟨vl2, hB2⟩ := hB2
        have HI2 := Lib.hid (HI.out.step ht2 ⟨_, _, hB2⟩)
        have HB2 := Lib.hid hB2
        have HML := Lib.hid (show m'.length ≤ 100000 by have := hB2.len; omega)
        have HND := Lib.hid hB2.nodup
        have HE1 := Lib.hid ((ht2.cell (a := (y.add (k * 3)).add 1) (by rw [add_block, add_block]; exact HYL.out) (by rw [add_block, add_block]; exact HYM.out)).trans HC1.out)
        have HE2 := Lib.hid ((ht2.cell (a := (y.add (k * 3)).add 2) (by rw [add_block, add_block]; exact HYL.out) (by rw [add_block, add_block]; exact HYM.out)).trans HC2.out)
        have HYL2 := Lib.hid (Nat.lt_of_lt_of_le HYL.out ht2.size)
        clear ht2 hB2 HI HB HC0 HC1 HC2 HYL HYM HD
        go_wp2_with fail
        refine (last_ok HB2.out.tab b).mono ?_
        intro e q3 hpost
        obtain ⟨last, ok, he, hl32, hla, hg⟩ := hpost
        subst he
        have HLA := Lib.hid hla
        have HG := Lib.hid (Touch.of_below (S := []) hg)
        have HB3 := Lib.hid (HB2.out.kept0 HG.out)
        have HI3 := Lib.hid (HI2.out.later HG.out)
        clear hg hla
        go_wp2_with fail
        refine (rlast_ok HB3.out.rtab HML.out b).mono ?_
        intro e q4 hpost
        obtain ⟨last2, ok2, he, hla2, hw⟩ := hpost
        subst hw
        obtain ⟨e1, e2⟩ := hla2.unique HLA.out
        subst he
        subst e1
        subst e2
        have HF1 := Lib.hid ((HG.out.cell (a := (y.add (k * 3)).add 1) (by rw [add_block, add_block]; exact HYL2.out) (by simp)).trans HE1.out)
        have HF2 := Lib.hid ((HG.out.cell (a := (y.add (k * 3)).add 2) (by rw [add_block, add_block]; exact HYL2.out) (by simp)).trans HE2.out)
        have HYL3 := Lib.hid (Nat.lt_of_lt_of_le HYL2.out HG.out.size)
        clear HG HE1 HE2 HYL2 HI2 HB2 hla2 HLA
        go_upto_region 14 with (fail)
        refine plays14_reg B R y L cap k ps s last2 pb b (revoked m' b s) (revoked m' pb s) ok2 (sortI (ofR m' s)) (sortI (ofR m' ps)) q3 (Lib.hid (by rw [sortI_length]; exact Nat.le_trans (ofR_len _ _) HML.out)) (Lib.hid (by rw [sortI_length]; exact Nat.le_trans (ofR_len _ _) HML.out)) HF1 HF2 HYL3 hlt (Lib.hid fun wq ht => revoked_ok (HB3.out.kept0 ht).tab b s hs) (Lib.hid fun wq ht => (rrevoked_ok (HB3.out.kept0 ht).rtab HML.out b s).mono fun e w' ⟨h1, h2⟩ => ⟨h1, h2 ▸ Grow.refl _⟩) (Lib.hid fun wq ht => revoked_ok (HB3.out.kept0 ht).tab pb s hs) (Lib.hid fun wq ht => (rrevoked_ok (HB3.out.kept0 ht).rtab HML.out pb s).mono fun e w' ⟨h1, h2⟩ => ⟨h1, h2 ▸ Grow.refl _⟩) (Lib.hid fun wq ht => (of_ok (HB3.out.kept0 ht).tab HML.out s).mono fun e w' ⟨v, h1, h2, h3, _⟩ => ⟨v, h1, h2, h3⟩) (Lib.hid fun wq ht => (rof_ok (HB3.out.kept0 ht).rtab HML.out HND.out s).mono fun e w' ⟨v, h1, h2⟩ => ⟨v, h1, h2.row, h2.grow⟩) (Lib.hid fun wq ht => (of_ok (HB3.out.kept0 ht).tab HML.out ps).mono fun e w' ⟨v, h1, h2, h3, _⟩ => ⟨v, h1, h2, h3⟩) (Lib.hid fun wq ht => (rof_ok (HB3.out.kept0 ht).rtab HML.out HND.out ps).mono fun e w' ⟨v, h1, h2⟩ => ⟨v, h1, h2.row, h2.grow⟩) _ _ _ _ _ _ _ _ _ _ _ _ _ _ _ _ _ _ _ _ _ _ _ _ _ _ _ _ _ _ _ _ _ _ _ _ _ _ _ _ _ _ _ _ _ _ _ _ _ _ _ _ _ _ _ _ _ _ _ _ _ _ _ _ _ _ _ _ _ _ _ _ _ _ _ _ _ _ _ _ _ _ _ _ _ _ _ _ _ _ _ _ _ _ _ _ _ _ _ _ _ _ _ _ _ _ _ _ _ _ _ _ _ _ _ (Lib.hid ?_)
        intro u58 u59 u60 u61 u62 u63 u64 u65 u66 u67 u68 u69 u70 u71 u72 u73 u74 u75 u76 u77 u78 u79 u80 u81 u82 u83 u84 u85 u86 u87 u88 u89 u90 u91 u92 u93 u94 u95 u96 u97 u98 u99 u100 u101 u102 u103 u104 u105 u106 u107 u108 u109 u110 u111 u112 u113 u114 u115 u116 u117 u118 u119 u120 u121 u122 wy ht5
        have HI5 := Lib.hid (HI3.out.later ht5)
        clear ht5 HI3 HB3 HF1 HF2 HYL3 HND HML
        go_wp2_with fail
        go_roundw
        case rel => exact ⟨k + 1, by omega, by go_num, HI5⟩
        case measure => simp [intOf]; omega
      · obtain rfl : k = L := by omega
        have HG := Lib.hid HI.out.grow
        clear HI
        go_wp2_with fail
        go_ret
        exact ⟨rfl, HG.out⟩
#print axioms plays_walk
end Go.Proofs.Ytbpejjgjjjmlkaa
