/- jblock.number, Escape, WriteCommit; the keys. -/
import Derived.Test.YtieknecbheeekaaDoorJ1
set_option linter.unusedVariables false
set_option linter.unusedSimpArgs false
namespace Go.Proofs.YtieknecbheeekaaDoor
open Go.RowKit Go.Maps

/-- a block whose first four bytes are 1, 0, 0, 0 -/
def Plain1 (x : Blk) : Prop := x[0]? = some 1 ∧ x[1]? = some 0 ∧ x[2]? = some 0 ∧ x[3]? = some 0
set_option maxRecDepth 100000 in
set_option maxHeartbeats 4000000 in
theorem get4_ok {w : World} {g : Nat} {x : Blk} (h : w.heap[g]? = some (.cells (bc x).toArray 34)) (hx : x.length = 256) :
    Calls Tryd.prog 70 #[.slice (some ⟨g, 0, none⟩) 256 256, .int .i64 0, .int .i64 4] w fun e w' => ∃ v : Int, e = .returned (.tuple #[.int .u32 v, .bool true]) ∧ w = w' ∧ (Plain1 x → v ≠ 1280199249) := by
  have hget : ∀ j (hj : j < 256), w.cell? ⟨g, j, none⟩ = some (.int .u8 ((x[j]'(by omega) : Nat) : Int)) := fun j hj => by
    rw [cell_at h j]; unfold bc; simp [hx, hj]
  have c0 := hget 0 (by omega)
  have c1 := hget 1 (by omega)
  have c2 := hget 2 (by omega)
  have c3 := hget 3 (by omega)
  have HP := Lib.hid (show Plain1 x → x[0]'(by omega) = 1 ∧ x[1]'(by omega) = 0 ∧ x[2]'(by omega) = 0 ∧ x[3]'(by omega) = 0 from fun ⟨a, b, c, d⟩ => ⟨(List.getElem?_eq_some_iff.1 a).2, (List.getElem?_eq_some_iff.1 b).2, (List.getElem?_eq_some_iff.1 c).2, (List.getElem?_eq_some_iff.1 d).2⟩)
  generalize x[0]'(by omega) = b0 at *
  generalize x[1]'(by omega) = b1 at *
  generalize x[2]'(by omega) = b2 at *
  generalize x[3]'(by omega) = b3 at *
  have HW := Lib.hid (within_yes 256 0 (by omega) (by omega) w)
  clear h hget hx
  go_enter Tryd.func70, Tryd.ntmps70
  go_wp2_with fail
  refine HW.out.mono ?_
  rintro e w' ⟨rfl, rfl⟩
  go_wp2
  refine wp_loop_rounds 5 ?_
  rw [rounds_succ]
  go_wp2
  rw [rounds_succ]
  go_wp2
  rw [rounds_succ]
  go_wp2
  rw [rounds_succ]
  go_wp2
  rw [rounds_succ]
  go_wp2
  go_ret2
  refine ⟨_, rfl, rfl, fun hp => ?_⟩
  obtain ⟨rfl, rfl, rfl, rfl⟩ := HP.out hp
  decide
theorem get32_ok {w : World} {g : Nat} {x : Blk} (h : w.heap[g]? = some (.cells (bc x).toArray 34)) (hx : x.length = 256) :
    Calls Tryd.prog 68 #[.slice (some ⟨g, 0, none⟩) 256 256, .int .i64 0] w fun e w' => ∃ v : Int, e = .returned (.tuple #[.int .u32 v, .bool true]) ∧ w = w' ∧ (Plain1 x → v ≠ 1280199249) := by
  have HG := Lib.hid (get4_ok h hx)
  clear h
  go_enter Tryd.func68, Tryd.ntmps68
  go_wp2_with fail
  refine HG.out.mono ?_
  rintro e w' ⟨v, rfl, rfl, hv⟩
  go_wp2_with fail
  go_ret2
  exact ⟨v, rfl, rfl, hv⟩
theorem number_ok {w : World} {g : Nat} {x : Blk} (h : w.heap[g]? = some (.cells (bc x).toArray 34)) (hx : x.length = 256) :
    Calls Tryd.prog 57 #[.pointer (some ⟨g, 0, none⟩), .int .i64 0] w fun e w' => ∃ v : Int, e = .returned (.int .u32 v) ∧ w = w' ∧ (Plain1 x → v ≠ 1280199249) := by
  have HG := Lib.hid (get32_ok h hx)
  clear h
  go_enter Tryd.func57, Tryd.ntmps57
  go_wp2_with fail
  refine HG.out.mono ?_
  rintro e w' ⟨v, rfl, rfl, hv⟩
  have HV := Lib.hid hv
  clear hv
  go_wp2_with fail
  go_ret
  exact ⟨v, rfl, rfl, HV.out⟩
#print axioms number_ok
def EscPost (x : Blk) (w : World) (e : Ending) (w' : World) : Prop := ∃ (x' : Blk) (b : Bool), e = .returned (.tuple #[.agg (bc x').toArray, .bool b]) ∧ x'.length = 256 ∧ Grow w w' ∧ (Plain1 x → x' = x)
set_option maxRecDepth 100000 in
set_option maxHeartbeats 4000000 in
theorem escape_ok {x : Blk} (hx : x.length = 256) (w : World) : Calls Tryd.prog 45 #[.agg (bc x).toArray] w (EscPost x w) := by
  have hz := zero32
  have HB0 := Lib.hid (show ((w.alloc (.cells (bc x).toArray 34)).alloc (.cells (bc zeroB).toArray 34)).heap[w.heap.size]? = some (.cells (bc x).toArray 34) from heap_one w _ _)
  have HO0 := Lib.hid (show ((w.alloc (.cells (bc x).toArray 34)).alloc (.cells (bc zeroB).toArray 34)).heap[w.heap.size + 1]? = some (.cells (bc zeroB).toArray 34) from heap_two w _ _)
  have HG0 := Lib.hid (Grow.trans (Grow.alloc w (.cells (bc x).toArray 34)) (Grow.alloc _ (.cells (bc zeroB).toArray 34)))
  have HZ := Lib.hid zero_size
  obtain ⟨Z, hZ⟩ : ∃ Z, Z = (bc zeroB).toArray := ⟨_, rfl⟩
  rw [← hZ] at hz HB0 HO0 HG0 HZ
  have HXl := Lib.hid hx
  obtain ⟨X, hX⟩ : ∃ X, X = (bc x).toArray := ⟨_, rfl⟩
  have HX := Lib.hid hX
  rw [← hX] at HB0 HO0 HG0 ⊢
  have HXs := Lib.hid (show X.size = 256 by rw [hX, List.size_toArray, bc_length, hx])
  have HX1 := Lib.hid (show X.all (·.oneCell') = true by rw [hX]; exact all_oneCell_toArray (bc_one _))
  clear hZ hX hx
  go_enter Tryd.func45, Tryd.ntmps45
  go_wp2_with fail
  obtain ⟨w0, hw0⟩ : ∃ w0, w0 = ((w.alloc (.cells X 34)).alloc (.cells Z 34)) := ⟨_, rfl⟩
  rw [← hw0] at HB0 HO0 HG0 ⊢
  clear hw0
  refine (number_ok (x := x) (by rw [← HX.out]; exact HB0.out) HXl.out).mono ?_
  rintro e w' ⟨v, rfl, rfl, hv⟩
  have HV := Lib.hid hv
  clear hv
  by_cases hv0 : v = 1280199249
  · subst hv0
    have HNP := Lib.hid (show ¬ Plain1 x from fun h => HV.out h rfl)
    go_wp2_with fail
    refine (put32_ok (x := x) (by rw [← HX.out]; exact HB0.out) HXl.out 0 0 (by omega) (by omega)).mono ?_
    intro e w2 hpost
    obtain ⟨⟨u, he⟩, hh, ht⟩ := hpost
    subst he
    have HO2 := Lib.hid ((ht.block _ (Array.getElem?_eq_some_iff.1 HO0.out).1 (by simp)).trans HO0.out)
    have HG2 := Lib.hid (show Grow w w2 from Below.trans HG0.out (ht.below HG0.out.size (by simp)))
    obtain ⟨Y, hY⟩ : ∃ Y, Y = (bc (put4 x 0 0)).toArray := ⟨_, rfl⟩
    rw [← hY] at hh
    have HY := Lib.hid hY
    have HB2 := Lib.hid hh
    have HYs := Lib.hid (show Y.size = 256 by rw [hY, List.size_toArray, bc_length, put4_length, HXl.out])
    have HY1 := Lib.hid (show Y.all (·.oneCell') = true by rw [hY]; exact all_oneCell_toArray (bc_one _))
    clear hY hh ht
    go_wp2_with (first | (refine wpList_load_row rfl _ _ rfl w.heap.size rfl 34 Y (0, 0) _ HB2.out Tryd.underlying34 rfl (by rw [HYs.out]; exact size32) ?_) | (refine wpList_store_row rfl _ _ _ rfl (w.heap.size + 1) Y rfl rfl 34 Z HO2.out (by rw [HYs.out]; exact size32) (by rw [HYs.out]; exact HZ.out) HY1.out ?_))
    refine bodyPost_ret (results_row_tmp rfl _ _ (w.heap.size + 1) 34 Y (0, 0) _ _ rfl (setRow_heap _ _ _ _ _ _ HO2.out) Tryd.underlying34 rfl (by rw [HYs.out]; exact size32) rfl) rfl ⟨put4 x 0 0, true, by rw [HY.out]; rfl, by rw [put4_length]; exact HXl.out, below_setRow HG2.out (by omega) _, fun h => absurd h HNP.out⟩
  · have e0 : (v != 1280199249) = true := by simpa using hv0
    go_wp2_with (first | (refine wpList_load_row rfl _ _ rfl w.heap.size rfl 34 X (0, 0) _ HB0.out Tryd.underlying34 rfl (by rw [HXs.out]; exact size32) ?_) | (refine wpList_store_row rfl _ _ _ rfl (w.heap.size + 1) X rfl rfl 34 Z HO0.out (by rw [HXs.out]; exact size32) (by rw [HXs.out]; exact HZ.out) HX1.out ?_))
    refine bodyPost_ret (results_row_tmp rfl _ _ (w.heap.size + 1) 34 X (0, 0) _ _ rfl (setRow_heap _ _ _ _ _ _ HO0.out) Tryd.underlying34 rfl (by rw [HXs.out]; exact size32) rfl) rfl ⟨x, false, by rw [HX.out]; rfl, HXl.out, below_setRow HG0.out (by omega) _, fun _ => rfl⟩
#print axioms escape_ok
end Go.Proofs.YtieknecbheeekaaDoor
