/- jblock.WriteHead: the walk. -/
import Derived.Test.YtieknecbheeekaaDoorS1
set_option linter.unusedVariables false
set_option linter.unusedSimpArgs false
namespace Go.Proofs.YtieknecbheeekaaDoor
open Go.RowKit Go.Maps

/-- a number's four bytes, the lowest first -/
def put4 (x : Blk) (a v : Nat) : Blk := (((x.set a (v % 256)).set (a + 1) (v / 256 % 256)).set (a + 2) (v / 256 / 256 % 256)).set (a + 3) (v / 256 / 256 / 256)
theorem put4_length (x : Blk) (a v : Nat) : (put4 x a v).length = x.length := by unfold put4; simp only [List.length_set]
theorem within_yes (n a : Nat) (h : a + 4 ≤ n) (hn : n ≤ 256) (w : World) : Calls Tryd.prog 69 #[.int .i64 (n : Int), .int .i64 (a : Int), .int .i64 4] w fun e w' => e = .returned (.bool true) ∧ w' = w := by
  have d0 : decide ((0 : Int) ≤ (a : Int)) = true := by simp
  have d2 : decide ((4 : Int) ≤ (n : Int)) = true := by simp; omega
  have hw : IntKind.i64.wrap ((n : Int) - 4) = (n : Int) - 4 := by rw [IntKind.wrap_i64] <;> omega
  have d1 : decide ((a : Int) ≤ (n : Int) - 4) = true := by simp; omega
  go_enter Tryd.func69, Tryd.ntmps69
  go_wp2
  go_ret
  exact ⟨rfl, rfl⟩
set_option maxRecDepth 100000 in
set_option maxHeartbeats 4000000 in
theorem put_ok {w : World} {g : Nat} {x : Blk} (h : w.heap[g]? = some (.cells (bc x).toArray 34)) (hx : x.length = 256) (o n c a v : Nat) (ha : a + 4 ≤ n) (ho : o + n ≤ 256) (hv : v < 4294967296) :
    Calls Tryd.prog 64 #[.slice (some ⟨g, o, none⟩) n c, .int .i64 (a : Int), .int .i64 4, .int .u32 (v : Int)] w fun e w' => e = .returned (.bool true) ∧ w'.heap[g]? = some (.cells (bc (put4 x (o + a) v)).toArray 34) ∧ Touch [g] w w' := by
  have HH := Lib.hid h
  have hget : ∀ j, j < 256 → ∃ y, w.cell? ⟨g, j, none⟩ = some y ∧ w.frozen? ⟨g, j, none⟩ = false := fun j hj => by
    have h1 : j < (bc x).toArray.size := by rw [List.size_toArray, bc_length, hx]; exact hj
    exact ⟨(bc x).toArray[j], (cell_at h j).trans (Array.getElem?_eq_getElem h1), frozen_at h j⟩
  obtain ⟨y0, c0, f0⟩ := hget (o + a) (by omega)
  obtain ⟨y1, c1, f1⟩ := hget (o + (a + 1)) (by omega)
  obtain ⟨y2, c2, f2⟩ := hget (o + (a + 2)) (by omega)
  obtain ⟨y3, c3, f3⟩ := hget (o + (a + 3)) (by omega)
  have HW := Lib.hid (within_yes n a ha (by omega) w)
  have b1 : (a : Int) + 3 < (n : Int) := by omega
  have b2 : (a : Int) + 2 < (n : Int) := by omega
  have b3 : (a : Int) + 1 < (n : Int) := by omega
  have b4 : (a : Int) < (n : Int) := by omega
  clear h hget
  go_enter Tryd.func64, Tryd.ntmps64
  go_wp2_with fail
  refine HW.out.mono ?_
  rintro e w' ⟨rfl, rfl⟩
  go_wp2
  refine wp_loop_rounds 5 ?_
  rw [rounds_succ]
  go_wp2
  rw [rounds_succ]
  go_wp2
  rw [rounds_succ]
  go_wp2
  rw [rounds_succ]
  go_wp2
  rw [rounds_succ]
  go_wp2
  go_ret
  refine ⟨rfl, ?_, ((((Touch.setCell _ (by simp) _).trans (Touch.setCell _ (by simp) _) (fun i hi => .inl hi)).trans (Touch.setCell _ (by simp) _) (fun i hi => .inl hi)).trans (Touch.setCell _ (by simp) _) (fun i hi => .inl hi))⟩
  unfold put4
  rw [bc_set, bc_set, bc_set, bc_set]
  have e := heap_set (heap_set (heap_set (heap_set HH.out (o + a) (.int .u8 ((v : Int) % 256))) (o + (a + 1)) (.int .u8 ((v : Int) / 256 % 256))) (o + (a + 2)) (.int .u8 ((v : Int) / 256 / 256 % 256))) (o + (a + 3)) (.int .u8 ((v : Int) / 256 / 256 / 256))
  rw [show o + a + 1 = o + (a + 1) by omega, show o + a + 2 = o + (a + 2) by omega, show o + a + 3 = o + (a + 3) by omega]
  simpa using e
#print axioms put_ok
theorem put32_at {w : World} {g : Nat} {x : Blk} (h : w.heap[g]? = some (.cells (bc x).toArray 34)) (hx : x.length = 256) (o n c a v : Nat) (ha : a + 4 ≤ n) (ho : o + n ≤ 256) (hv : v < 4294967296) :
    Calls Tryd.prog 51 #[.slice (some ⟨g, o, none⟩) n c, .int .i64 (a : Int), .int .u32 (v : Int)] w fun e w' => (∃ u, e = .returned u) ∧ w'.heap[g]? = some (.cells (bc (put4 x (o + a) v)).toArray 34) ∧ Touch [g] w w' := by
  have HP := Lib.hid (put_ok h hx o n c a v ha ho hv)
  clear h
  go_enter Tryd.func51, Tryd.ntmps51
  go_wp2_with fail
  refine HP.out.mono ?_
  intro e w' hpost
  obtain ⟨he, hh, ht⟩ := hpost
  subst he
  have HH := Lib.hid hh
  have HT := Lib.hid ht
  clear hh ht HP
  go_wp2_with fail
  go_ret
  exact ⟨⟨_, rfl⟩, HH.out, HT.out⟩
theorem put32_ok {w : World} {g : Nat} {x : Blk} (h : w.heap[g]? = some (.cells (bc x).toArray 34)) (hx : x.length = 256) (a v : Nat) (ha : a + 4 ≤ 256) (hv : v < 4294967296) :
    Calls Tryd.prog 51 #[.slice (some ⟨g, 0, none⟩) 256 256, .int .i64 (a : Int), .int .u32 (v : Int)] w fun e w' => (∃ u, e = .returned u) ∧ w'.heap[g]? = some (.cells (bc (put4 x a v)).toArray 34) ∧ Touch [g] w w' := by
  have := put32_at h hx 0 256 256 a v ha (by omega) hv
  rwa [Nat.zero_add] at this
/-- a journal block's beginning -/
def beginB (kind seq first : Nat) : Blk := put4 (put4 (put4 (put4 zeroB 0 1280199249) 4 kind) 8 seq) 12 first
theorem zeroB_len : zeroB.length = 256 := by have := zero_size; rw [List.size_toArray, bc_length] at this; exact this
theorem beginB_length (k s f : Nat) : (beginB k s f).length = 256 := by unfold beginB; rw [put4_length, put4_length, put4_length, put4_length]; exact zeroB_len
set_option maxRecDepth 100000 in
set_option maxHeartbeats 4000000 in
theorem begin_ok (k s f : Nat) (hk : k < 256) (hs : s < 4294967296) (hf : f < 4294967296) (w : World) : Calls Tryd.prog 31 #[.int .u8 (k : Int), .int .u32 (s : Int), .int .u32 (f : Int)] w fun e w' => e = .returned (.agg (bc (beginB k s f)).toArray) ∧ Grow w w' := by
  have hz := zero32
  have HB0 := Lib.hid (show ((w.alloc (.cells (bc zeroB).toArray 34)).alloc (.cells (bc zeroB).toArray 34)).heap[w.heap.size + 1]? = some (.cells (bc zeroB).toArray 34) from heap_two w _ _)
  have HO0 := Lib.hid (show ((w.alloc (.cells (bc zeroB).toArray 34)).alloc (.cells (bc zeroB).toArray 34)).heap[w.heap.size]? = some (.cells (bc zeroB).toArray 34) from heap_one w _ _)
  have HG0 := Lib.hid (Grow.trans (Grow.alloc w (.cells (bc zeroB).toArray 34)) (Grow.alloc _ (.cells (bc zeroB).toArray 34)))
  have HZ := Lib.hid zero_size
  have HX1 := Lib.hid (show (put4 zeroB 0 1280199249).length = 256 by rw [put4_length, zeroB_len])
  have HX2 := Lib.hid (show (put4 (put4 zeroB 0 1280199249) 4 k).length = 256 by rw [put4_length]; exact HX1.out)
  have HX3 := Lib.hid (show (put4 (put4 (put4 zeroB 0 1280199249) 4 k) 8 s).length = 256 by rw [put4_length]; exact HX2.out)
  have HX4 := Lib.hid (beginB_length k s f)
  have hk2 : IntKind.u32.wrap (k : Int) = (k : Int) := by rw [IntKind.wrap_u32]; omega
  obtain ⟨Z, hZ⟩ : ∃ Z, Z = (bc zeroB).toArray := ⟨_, rfl⟩
  have HZE := Lib.hid hZ
  rw [← hZ] at hz HB0 HO0 HG0 HZ
  clear hZ
  go_enter Tryd.func31, Tryd.ntmps31
  go_wp2_with fail
  obtain ⟨w0, hw0⟩ : ∃ w0, w0 = ((w.alloc (.cells Z 34)).alloc (.cells Z 34)) := ⟨_, rfl⟩
  rw [← hw0] at HB0 HO0 HG0 ⊢
  clear hw0
  rw [HZE.out] at HB0
  have HL0 := Lib.hid (Array.getElem?_eq_some_iff.1 HO0.out).1
  refine (put32_ok HB0.out zeroB_len 0 1280199249 (by omega) (by omega)).mono ?_
  intro e w1 hpost
  obtain ⟨⟨u, he⟩, hh, ht⟩ := hpost
  subst he
  have HB1 := Lib.hid hh
  have HO1 := Lib.hid ((ht.block w.heap.size HL0.out (by simp)).trans HO0.out)
  have HG1 := Lib.hid (show Grow w w1 from Below.trans HG0.out (ht.below HG0.out.size (by simp)))
  have HL1 := Lib.hid (Nat.lt_of_lt_of_le HL0.out ht.size)
  clear hh ht
  go_wp2_with fail
  refine (put32_ok HB1.out HX1.out 4 k (by omega) (by omega)).mono ?_
  intro e w2 hpost
  obtain ⟨⟨u, he⟩, hh, ht⟩ := hpost
  subst he
  have HB2 := Lib.hid hh
  have HO2 := Lib.hid ((ht.block w.heap.size HL1.out (by simp)).trans HO1.out)
  have HG2 := Lib.hid (show Grow w w2 from Below.trans HG1.out (ht.below HG1.out.size (by simp)))
  have HL2 := Lib.hid (Nat.lt_of_lt_of_le HL1.out ht.size)
  clear hh ht
  go_wp2_with fail
  refine (put32_ok HB2.out HX2.out 8 s (by omega) hs).mono ?_
  intro e w3 hpost
  obtain ⟨⟨u, he⟩, hh, ht⟩ := hpost
  subst he
  have HB3 := Lib.hid hh
  have HO3 := Lib.hid ((ht.block w.heap.size HL2.out (by simp)).trans HO2.out)
  have HG3 := Lib.hid (show Grow w w3 from Below.trans HG2.out (ht.below HG2.out.size (by simp)))
  have HL3 := Lib.hid (Nat.lt_of_lt_of_le HL2.out ht.size)
  clear hh ht
  go_wp2_with fail
  refine (put32_ok HB3.out HX3.out 12 f (by omega) hf).mono ?_
  intro e w4 hpost
  obtain ⟨⟨u, he⟩, hh, ht⟩ := hpost
  subst he
  have HB4 := Lib.hid hh
  have HO4 := Lib.hid ((ht.block w.heap.size HL3.out (by simp)).trans HO3.out)
  have HG4 := Lib.hid (show Grow w w4 from Below.trans HG3.out (ht.below HG3.out.size (by simp)))
  have HL4 := Lib.hid (Nat.lt_of_lt_of_le HL3.out ht.size)
  clear hh ht
  obtain ⟨R, hR⟩ : ∃ R, R = (bc (beginB k s f)).toArray := ⟨_, rfl⟩
  have HR := Lib.hid hR
  have HRs := Lib.hid (show R.size = 256 by rw [hR, List.size_toArray, bc_length, HX4.out])
  have HR1 := Lib.hid (show R.all (·.oneCell') = true by rw [hR]; exact all_oneCell_toArray (bc_one _))
  have HB5 := Lib.hid (show w4.heap[w.heap.size + 1]? = some (.cells R 34) by rw [HR.out]; exact HB4.out)
  clear hR
  go_wp2_with (first | (refine wpList_load_row rfl _ _ rfl (w.heap.size + 1) rfl 34 R (0, 0) _ HB5.out Tryd.underlying34 rfl (by rw [HRs.out]; exact size32) ?_) | (refine wpList_store_row rfl _ _ _ rfl w.heap.size R rfl rfl 34 Z HO4.out (by rw [HRs.out]; exact size32) (by rw [HRs.out]; exact HZ.out) HR1.out ?_))
  refine bodyPost_ret (results_cell_row rfl _ _ w.heap.size 34 R (0, 0) _ rfl (setRow_heap _ _ _ _ _ _ HO4.out) Tryd.underlying34 rfl (by rw [HRs.out]; exact size32)) rfl ⟨by rw [HR.out], below_setRow HG4.out (Nat.le_refl _) _⟩
#print axioms begin_ok
theorem maySeq_yes (s : Nat) (h1 : 1 ≤ s) (h2 : s ≤ 2147483648) (w : World) : Calls Tryd.prog 30 #[.int .u32 (s : Int)] w fun e w' => e = .returned (.bool true) ∧ w' = w := by
  have d0 : decide ((1 : Int) ≤ (s : Int)) = true := by simp; omega
  have d1 : decide ((s : Int) ≤ 2147483648) = true := by simp; omega
  go_enter Tryd.func30, Tryd.ntmps30
  go_wp2
  go_ret
  exact ⟨rfl, rfl⟩
set_option maxRecDepth 100000 in
set_option maxHeartbeats 4000000 in
theorem head_ok (s f : Nat) (h1 : 1 ≤ s) (h2 : s ≤ 2147483648) (hf : f ≤ 255) (w : World) : Calls Tryd.prog 13 #[.agg #[.int .u32 (s : Int), .int .i64 (f : Int)]] w fun e w' => e = .returned (.tuple #[.agg (bc (beginB 4 s f)).toArray, .int .i64 0]) ∧ Grow w w' := by
  have hz := zero32
  have HZ := Lib.hid zero_size
  have HO0 := Lib.hid (show ((w.alloc (.cells #[.int .u32 (s : Int), .int .i64 (f : Int)] 63)).alloc (.cells (bc zeroB).toArray 34)).heap[w.heap.size + 1]? = some (.cells (bc zeroB).toArray 34) from heap_two w _ _)
  have HA0 := Lib.hid (show ((w.alloc (.cells #[.int .u32 (s : Int), .int .i64 (f : Int)] 63)).alloc (.cells (bc zeroB).toArray 34)).heap[w.heap.size]? = some (.cells #[.int .u32 (s : Int), .int .i64 (f : Int)] 63) from heap_one w _ _)
  have HG0 := Lib.hid (Grow.trans (Grow.alloc w (.cells #[.int .u32 (s : Int), .int .i64 (f : Int)] 63)) (Grow.alloc _ (.cells (bc zeroB).toArray 34)))
  obtain ⟨Z, hZ⟩ : ∃ Z, Z = (bc zeroB).toArray := ⟨_, rfl⟩
  rw [← hZ] at hz HO0 HG0 HZ HA0
  have hf2 : IntKind.u32.wrap (f : Int) = (f : Int) := by rw [IntKind.wrap_u32]; omega
  have d1 : decide ((255 : Int) < (f : Int)) = false := by simp; omega
  clear hZ
  go_enter Tryd.func13, Tryd.ntmps13
  go_wp2_with fail
  obtain ⟨w0, hw0⟩ : ∃ w0, w0 = (w.alloc (.cells #[.int .u32 (s : Int), .int .i64 (f : Int)] 63)).alloc (.cells Z 34) := ⟨_, rfl⟩
  rw [← hw0] at HO0 HA0 HG0 ⊢
  clear hw0
  have hc0 : w0.cell? ⟨w.heap.size, 0, none⟩ = some (.int .u32 (s : Int)) := cell_at HA0.out 0
  have hc1 : w0.cell? ⟨w.heap.size, 1, none⟩ = some (.int .i64 (f : Int)) := cell_at HA0.out 1
  refine (maySeq_yes s h1 h2 w0).mono ?_
  rintro e w' ⟨rfl, rfl⟩
  go_wp2_with fail
  refine (begin_ok 4 s f (by omega) (by omega) (by omega) w').mono ?_
  intro e w2 hpost
  obtain ⟨he, hg⟩ := hpost
  subst he
  have HO2 := Lib.hid ((hg.block _ (Array.getElem?_eq_some_iff.1 HO0.out).1).trans HO0.out)
  have HG2 := Lib.hid (Grow.trans HG0.out hg)
  have HL := Lib.hid (beginB_length 4 s f)
  obtain ⟨R, hR⟩ : ∃ R, R = (bc (beginB 4 s f)).toArray := ⟨_, rfl⟩
  have HR := Lib.hid hR
  have HRs := Lib.hid (show R.size = 256 by rw [hR, List.size_toArray, bc_length, HL.out])
  have HR1 := Lib.hid (show R.all (·.oneCell') = true by rw [hR]; exact all_oneCell_toArray (bc_one _))
  rw [← hR]
  clear hR hg hc0 hc1
  go_wp2_with (first | (refine wpList_store_row rfl _ _ _ rfl (w.heap.size + 1) R rfl rfl 34 Z HO2.out (by rw [HRs.out]; exact size32) (by rw [HRs.out]; exact HZ.out) HR1.out ?_))
  refine bodyPost_ret (results_row_tmp rfl _ _ (w.heap.size + 1) 34 R (0, 0) _ _ rfl (setRow_heap _ _ _ _ _ _ HO2.out) Tryd.underlying34 rfl (by rw [HRs.out]; exact size32) rfl) rfl ⟨by rw [HR.out]; rfl, below_setRow HG2.out (by omega) _⟩
#print axioms head_ok
end Go.Proofs.YtieknecbheeekaaDoor
