/- jblock.WriteCommit; the keys and the closures that write a row. -/
import Derived.Test.YtieknecbheeekaaDoorJ2
set_option linter.unusedVariables false
set_option linter.unusedSimpArgs false
namespace Go.Proofs.YtieknecbheeekaaDoor
open Go.RowKit Go.Maps

def WrPost (w : World) (e : Ending) (w' : World) : Prop := ∃ X : Blk, e = .returned (.tuple #[.agg (bc X).toArray, .int .i64 0]) ∧ X.length = 256 ∧ Grow w w'
set_option maxRecDepth 100000 in
set_option maxHeartbeats 4000000 in
theorem commit_ok (s c v : Nat) (h1 : 1 ≤ s) (h2 : s ≤ 2147483648) (hc1 : 1 ≤ c) (hc2 : c ≤ 256) (hv : v < 4294967296) (w : World) : Calls Tryd.prog 49 #[.int .u32 (s : Int), .int .i64 (c : Int), .int .u32 (v : Int)] w (WrPost w) := by
  have hz := zero32
  have HZ := Lib.hid zero_size
  obtain ⟨Z, hZ⟩ : ∃ Z, Z = (bc zeroB).toArray := ⟨_, rfl⟩
  rw [← hZ] at hz HZ
  have d0 : decide ((c : Int) < 1) = false := decide_eq_false (by omega)
  have d1 : decide ((c : Int) > 256) = false := decide_eq_false (by omega)
  have hw1 : IntKind.u32.wrap (c : Int) = (c : Int) := by rw [IntKind.wrap_u32]; omega
  have HO0 := Lib.hid (show (w.alloc (.cells Z 34)).heap[w.heap.size]? = some (.cells Z 34) from heap_alloc_last _ _)
  have HG0 := Lib.hid (Grow.alloc w (.cells Z 34))
  have HV := Lib.hid hv
  have HZE := Lib.hid hZ
  clear hZ hv
  go_enter Tryd.func49, Tryd.ntmps49
  go_wp2_with fail
  obtain ⟨w0, hw0⟩ : ∃ w0, w0 = w.alloc (.cells Z 34) := ⟨_, rfl⟩
  rw [← hw0] at HO0 HG0 ⊢
  clear hw0
  refine (maySeq_yes s h1 h2 w0).mono ?_
  rintro e w' ⟨rfl, rfl⟩
  go_wp2_with fail
  refine (begin_ok 2 s c (by omega) (by omega) (by omega) w').mono ?_
  intro e w2 hpost
  obtain ⟨he, hg⟩ := hpost
  subst he
  have HO2 := Lib.hid ((hg.block _ (Array.getElem?_eq_some_iff.1 HO0.out).1).trans HO0.out)
  have HG2 := Lib.hid (Grow.trans HG0.out hg)
  have HL := Lib.hid (beginB_length 2 s c)
  obtain ⟨R, hR⟩ : ∃ R, R = (bc (beginB 2 s c)).toArray := ⟨_, rfl⟩
  have HR := Lib.hid hR
  have HRs := Lib.hid (show R.size = 256 by rw [hR, List.size_toArray, bc_length, HL.out])
  have HR1 := Lib.hid (show R.all (·.oneCell') = true by rw [hR]; exact all_oneCell_toArray (bc_one _))
  rw [← hR]
  clear hR hg
  go_upto_region 4 with (refine wpList_store_row rfl 34 _ _ rfl w2.heap.size R rfl rfl 34 Z (heap_alloc_last _ _) (by rw [HRs.out]; exact size32) (by rw [HRs.out]; exact HZ.out) HR1.out ?_)
  have HB3 := Lib.hid (show ((w2.alloc (.cells Z 34)).setRow w2.heap.size R).heap[w2.heap.size]? = some (.cells R 34) from setRow_heap _ _ _ _ _ _ (heap_alloc_last _ _))
  have hg23 : Grow w2 ((w2.alloc (.cells Z 34)).setRow w2.heap.size R) := below_setRow (Grow.alloc _ _) (Nat.le_refl _) _
  have HO3 := Lib.hid ((hg23.block _ (Array.getElem?_eq_some_iff.1 HO2.out).1).trans HO2.out)
  have HG3 := Lib.hid (Grow.trans HG2.out hg23)
  have HW2 := Lib.hid (show w.heap.size < w2.heap.size from (Array.getElem?_eq_some_iff.1 HO2.out).1)
  clear hg23
  generalize (w2.alloc (.cells Z 34)).setRow w2.heap.size R = w3 at *
  obtain ⟨B, hB⟩ : ∃ B, B = w2.heap.size := ⟨_, rfl⟩
  rw [← hB] at HB3 HW2 ⊢
  clear hB
  go_wp2_with fail
  refine (put32_ok (x := beginB 2 s c) (by rw [← HR.out]; exact HB3.out) HL.out 16 v (by omega) HV.out).mono ?_
  intro e w4 hpost
  obtain ⟨⟨u, he⟩, hh, ht⟩ := hpost
  subst he
  have HO4 := Lib.hid ((ht.block _ (Array.getElem?_eq_some_iff.1 HO3.out).1 (by have := HW2.out; simp; omega)).trans HO3.out)
  have HG4 := Lib.hid (show Grow w w4 from Below.trans HG3.out (ht.below HG3.out.size (by have := HW2.out; simp; omega)))
  obtain ⟨Y, hY⟩ : ∃ Y, Y = (bc (put4 (beginB 2 s c) 16 v)).toArray := ⟨_, rfl⟩
  rw [← hY] at hh
  have HY := Lib.hid hY
  have HB4 := Lib.hid hh
  have HYs := Lib.hid (show Y.size = 256 by rw [hY, List.size_toArray, bc_length, put4_length, HL.out])
  have HY1 := Lib.hid (show Y.all (·.oneCell') = true by rw [hY]; exact all_oneCell_toArray (bc_one _))
  clear hY hh ht
  go_wp2_with (first | (refine wpList_load_row rfl _ _ rfl B rfl 34 Y (0, 0) _ HB4.out Tryd.underlying34 rfl (by rw [HYs.out]; exact size32) ?_) | (refine wpList_store_row rfl _ _ _ rfl w.heap.size Y rfl rfl 34 Z HO4.out (by rw [HYs.out]; exact size32) (by rw [HYs.out]; exact HZ.out) HY1.out ?_))
  refine bodyPost_ret (results_row_tmp rfl _ _ w.heap.size 34 Y (0, 0) _ _ rfl (setRow_heap _ _ _ _ _ _ HO4.out) Tryd.underlying34 rfl (by rw [HYs.out]; exact size32) rfl) rfl ⟨put4 (beginB 2 s c) 16 v, by rw [HY.out]; rfl, by rw [put4_length]; exact HL.out, below_setRow HG4.out (Nat.le_refl _) _⟩
#print axioms commit_ok
/-! ### the keys; what writes a row -/
theorem tagKey_ok (b : Nat) (s : Bool) (w : World) : Calls Tryd.prog 59 #[.agg #[.int .u32 (b : Int), .bool s]] w fun e w' => e = .returned (.int .u32 (b : Int)) ∧ Grow w w' := by
  go_enter Tryd.func59, Tryd.ntmps59
  go_wp2
  go_ret
  exact ⟨rfl, Grow.alloc _ _⟩
theorem numKey_ok (b : Nat) (w : World) : Calls Tryd.prog 62 #[.int .u32 (b : Int)] w fun e w' => e = .returned (.int .u32 (b : Int)) ∧ Grow w w' := by
  go_enter Tryd.func62, Tryd.ntmps62
  go_wp2
  go_ret
  exact ⟨rfl, Grow.refl _⟩
/-- some row was written into the block -/
def PutPost (g : Nat) (w : World) (e : Ending) (w' : World) : Prop := (∃ u, e = .returned u) ∧ (∃ x' : Blk, w'.heap[g]? = some (.cells (bc x').toArray 34) ∧ x'.length = 256) ∧ Touch [g] w w'
set_option maxHeartbeats 4000000 in
theorem putTag_ok {w : World} {g : Nat} {x : Blk} (h : w.heap[g]? = some (.cells (bc x).toArray 34)) (hx : x.length = 256) (o c b : Nat) (s : Bool) (ho : o + 8 ≤ 256) (hb : b < 4294967296) :
    Calls Tryd.prog 60 #[.slice (some ⟨g, o, none⟩) 8 c, .agg #[.int .u32 (b : Int), .bool s]] w (PutPost g w) := by
  have HB := Lib.hid ((Below.heap_alloc w (.cells #[.int .u32 (b : Int), .bool s] 104) g (Array.getElem?_eq_some_iff.1 h).1).trans h)
  have HT := Lib.hid (heap_alloc_last w (.cells #[.int .u32 (b : Int), .bool s] 104))
  have HGL := Lib.hid (Array.getElem?_eq_some_iff.1 h).1
  have HXl := Lib.hid hx
  have HBV := Lib.hid hb
  clear h hx hb
  go_enter Tryd.func60, Tryd.ntmps60
  go_wp2_with fail
  obtain ⟨w0, hw0⟩ : ∃ w0, w0 = w.alloc (.cells #[.int .u32 (b : Int), .bool s] 104) := ⟨_, rfl⟩
  have HT0 := Lib.hid (show Touch [g] w w0 by rw [hw0]; exact Touch.alloc _ _ _)
  rw [← hw0] at HB HT ⊢
  clear hw0
  refine (put32_at HB.out HXl.out o 8 c 0 b (by omega) ho HBV.out).mono ?_
  intro e w1 hp
  obtain ⟨⟨u, rfl⟩, hh, ht⟩ := hp
  have HH := Lib.hid hh
  have HT1 := Lib.hid (HT0.out.trans ht (fun i hi => .inl hi))
  have c1 : w1.cell? ⟨w.heap.size, 1, none⟩ = some (.bool s) := (ht.cell (a := ⟨w.heap.size, 1, none⟩) (Array.getElem?_eq_some_iff.1 HT.out).1 (by have := HGL.out; simp; omega)).trans (cell_at HT.out 1)
  clear hh ht
  cases s with
  | false =>
    go_wp2_with fail
    go_end0
    exact ⟨⟨_, rfl⟩, ⟨_, HH.out, by rw [put4_length]; exact HXl.out⟩, HT1.out⟩
  | true =>
    go_wp2_with fail
    refine (put32_at HH.out (by rw [put4_length]; exact HXl.out) o 8 c 4 1 (by omega) ho (by omega)).mono ?_
    intro e w2 hp
    obtain ⟨⟨u, rfl⟩, hh, ht⟩ := hp
    have HH2 := Lib.hid hh
    have HT2 := Lib.hid (HT1.out.trans ht (fun i hi => .inl hi))
    clear hh ht c1
    go_wp2_with fail
    go_end0
    exact ⟨⟨_, rfl⟩, ⟨_, HH2.out, by rw [put4_length, put4_length]; exact HXl.out⟩, HT2.out⟩
#print axioms putTag_ok
theorem putNum_ok {w : World} {g : Nat} {x : Blk} (h : w.heap[g]? = some (.cells (bc x).toArray 34)) (hx : x.length = 256) (o c b : Nat) (ho : o + 4 ≤ 256) (hb : b < 4294967296) :
    Calls Tryd.prog 63 #[.slice (some ⟨g, o, none⟩) 4 c, .int .u32 (b : Int)] w (PutPost g w) := by
  have HP := Lib.hid (put32_at h hx o 4 c 0 b (by omega) ho hb)
  have HXl := Lib.hid hx
  clear h hx
  go_enter Tryd.func63, Tryd.ntmps63
  go_wp2_with fail
  refine HP.out.mono ?_
  intro e w2 hp
  obtain ⟨⟨u, rfl⟩, hh, ht⟩ := hp
  have HH2 := Lib.hid hh
  have HT2 := Lib.hid ht
  clear hh ht
  go_wp2_with fail
  go_end0
  exact ⟨⟨_, rfl⟩, ⟨_, HH2.out, by rw [put4_length]; exact HXl.out⟩, HT2.out⟩
#print axioms putNum_ok
end Go.Proofs.YtieknecbheeekaaDoor
