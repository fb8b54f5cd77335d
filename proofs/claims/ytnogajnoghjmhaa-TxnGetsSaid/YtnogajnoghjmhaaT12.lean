/- Get. -/
import Derived.Test.YtnogajnoghjmhaaT11
set_option linter.unusedVariables false
set_option linter.unusedSimpArgs false
namespace Go.Proofs.Ytnogajnoghjmhaa
open Go.RowKit Go.Maps

theorem get_not {w : World} {v : Value} (hM : NoMade w v) (b : Int) : Calls Try.prog 16 #[v, .int .i64 b] w fun e w' => e = .returned (.tuple #[.agg (bc zeroB).toArray, .bool false]) ∧ Grow w w' := by
  have HB := Lib.hid (show Try.prog.built 33 [] = some (bc zeroB).toArray by kernel_rfl)
  have HM := Lib.hid hM
  have hz := zero32
  have hzs := zero_size
  have HO := Lib.hid (show (bc zeroB).toArray.all (·.oneCell') = true from all_oneCell_toArray (bc_one _))
  generalize (bc zeroB).toArray = Z at *
  have HSz := Lib.hid (show (Try.prog.info? 33).map (·.size) = some Z.size by rw [hzs]; exact size32)
  clear hM hzs
  go_enter Try.func16, Try.ntmps16
  go_wp2_with fail
  refine (HM.out _ (Touch.alloc [] _ _)).mono ?_
  rintro e w' ⟨rfl, rfl⟩
  go_wp2_with (first | ((refine wpList_build rfl 33 _ rfl (by rw [show (((#[] : Array (Nat × Operand)).map fun (i, x) => (i, Act.eval _ x)).toList) = [] from rfl, HB.out]; rfl) ?_); rw [show (((#[] : Array (Nat × Operand)).map fun (i, x) => (i, Act.eval _ x)).toList) = [] from rfl, HB.out, Option.getD_some]) | (refine wpList_store_row rfl 33 _ _ rfl w.heap.size Z rfl rfl 33 Z (heap_alloc_last _ _) HSz.out rfl HO.out ?_))
  refine bodyPost_ret (results_row_tmp rfl _ _ w.heap.size 33 Z (0, 0) _ _ rfl (setRow_heap _ _ _ _ _ _ (heap_alloc_last _ _)) Try.underlying33 rfl HSz.out rfl) rfl ⟨rfl, below_setRow ((Below.refl _ _).alloc (Nat.le_refl _) _) (Nat.le_refl _) _⟩
set_option maxRecDepth 100000 in
set_option maxHeartbeats 2000000 in
theorem get_is {w : World} {B : Nat} {a : PA} {N seq : Nat} {f : Bool} {s : PS} (h : TV w B a N seq f s) {b : Int} (hb : IntOk b) : Calls Try.prog 16 #[.pointer (some ⟨B, 0, none⟩), .int .i64 b] w fun e w' => e = .returned (.tuple #[.agg (bc ((lookA s.ch b).getD zeroB)).toArray, .bool (decide (b ∈ keysA s.ch))]) ∧ Grow w w' := by
  have HXl := Lib.hid (h.p.ch.blk b)
  obtain ⟨X, hX⟩ : ∃ X, (lookA s.ch b).getD zeroB = X := ⟨_, rfl⟩
  obtain ⟨g, hg⟩ : ∃ g, decide (b ∈ keysA s.ch) = g := ⟨_, rfl⟩
  rw [hX] at HXl ⊢
  rw [hg]
  have HX := Lib.hid hX
  have HG := Lib.hid hg
  have hz := zero32
  have hzs := zero_size
  have hzo : (bc zeroB).toArray.all (·.oneCell') = true := all_oneCell_toArray (bc_one _)
  generalize hZZ : (bc zeroB).toArray = Z at *
  clear hZZ
  have HSz := Lib.hid (show (Try.prog.info? 33).map (·.size) = some (bc X).toArray.size by rw [List.size_toArray, bc_length, HXl.out]; exact size32)
  have HSo := Lib.hid (hzs.trans (show 256 = (bc X).toArray.size by rw [List.size_toArray, bc_length, HXl.out]))
  have HO := Lib.hid (show (bc X).toArray.all (·.oneCell') = true from all_oneCell_toArray (bc_one _))
  have h1 := h.kept (Touch.alloc [] w (.cells Z 33))
  have HH := Lib.hid h1
  have HM := Lib.hid (made_some h1.c0)
  have c0 := h1.c0
  clear h h1 hX hg hzs hzo
  go_enter Try.func16, Try.ntmps16
  go_wp2_with fail
  refine HM.out.mono ?_
  rintro e w' ⟨rfl, rfl⟩
  go_upto_region 4 with (first | (at_lookup; refine wpList_mapLookOkB rfl _ _ rfl a.c N s.ch rfl HH.out.p.ch b hb rfl HG.out HX.out ?_) | (refine wpList_store_row rfl 33 _ _ rfl (w.heap.size + 1) (bc X).toArray rfl rfl 33 Z (heap_two _ _ _) HSz.out HSo.out HO.out ?_))
  have HW := Lib.hid (show Grow w (((w.alloc (.cells Z 33)).alloc (.cells Z 33)).setRow (w.heap.size + 1) (bc X).toArray) from below_setRow ((Grow.alloc w _).trans (Grow.alloc _ _)) (by omega) _)
  have hx1 : (((w.alloc (.cells Z 33)).alloc (.cells Z 33)).setRow (w.heap.size + 1) (bc X).toArray).heap[w.heap.size + 1]? = some (.cells (bc X).toArray 33) := setRow_heap _ _ _ _ _ _ (heap_two _ _ _)
  have hz1 : (((w.alloc (.cells Z 33)).alloc (.cells Z 33)).setRow (w.heap.size + 1) (bc X).toArray).heap[w.heap.size]? = some (.cells Z 33) :=
    ((below_setRow (B := w.heap.size + 1) ((Below.refl _ _)) (Nat.le_refl _) _).block w.heap.size (by omega)).trans (heap_one _ _ _)
  have HX1 := Lib.hid hx1
  have HZ1 := Lib.hid hz1
  clear hx1 hz1 HH HM c0
  generalize (((w.alloc (.cells Z 33)).alloc (.cells Z 33)).setRow (w.heap.size + 1) (bc X).toArray) = W2 at *
  go_wp2_with (first | (refine wpList_load_row rfl 33 _ rfl (w.heap.size + 1) rfl 33 (bc X).toArray (0, 0) _ HX1.out Try.underlying33 rfl HSz.out ?_) | (refine wpList_store_row rfl 33 _ _ rfl w.heap.size (bc X).toArray rfl rfl 33 Z HZ1.out HSz.out HSo.out HO.out ?_))
  refine bodyPost_ret (results_row_tmp rfl _ _ w.heap.size 33 (bc X).toArray (0, 0) _ _ rfl (setRow_heap _ _ _ _ _ _ HZ1.out) Try.underlying33 rfl HSz.out rfl) rfl ⟨rfl, below_setRow HW.out (Nat.le_refl _) _⟩
#print axioms get_is
end Go.Proofs.Ytnogajnoghjmhaa
