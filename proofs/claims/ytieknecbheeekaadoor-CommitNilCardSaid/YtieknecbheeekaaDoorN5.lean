/- CommitNil: the walk. -/
import Derived.Test.YtieknecbheeekaaDoorN4
set_option linter.unusedVariables false
set_option linter.unusedSimpArgs false
namespace Go.Proofs.YtieknecbheeekaaDoor
open Go.RowKit Go.Maps
set_option maxRecDepth 100000 in
set_option maxHeartbeats 8000000 in
theorem nil_ok {W : World} (hT : Tab W) (v0 : Value) : Calls Tryd.prog 4 #[v0] W fun e w' => e = .returned (.bool true) ∧ Grow W w' := by
  have HT := Lib.hid hT
  clear hT
  go_enter Tryd.func4, Tryd.ntmps4
  go_wp2_with fail
  refine (new_no (.inl rfl) v0).mono ?_
  rintro e w1 ⟨rfl, rfl⟩
  go_wp2_with fail
  have HN1 := Lib.hid (show NoneAt (W.alloc (.cells #[.pointer none, .map none, .map none] 46)) (.pointer (some ⟨W.heap.size, 0, none⟩)) from .inr ⟨_, rfl, cell_at (heap_alloc_last _ _) 0⟩)
  have HG1 := Lib.hid (show Grow W (W.alloc (.cells #[.pointer none, .map none, .map none] 46)) from Grow.alloc _ _)
  generalize W.alloc (.cells #[.pointer none, .map none, .map none] 46) = w2 at *
  generalize W.heap.size = B at *
  refine (new_no HN1.out v0).mono ?_
  rintro e w3 ⟨rfl, rfl⟩
  go_wp2_with fail
  refine (step_no (.inl rfl)).mono ?_
  rintro e w3 ⟨rfl, rfl⟩
  go_wp2_with fail
  have HN2 := Lib.hid (show NoneAt (w2.alloc (.cells #[.pointer none, .slice none 0 0, .nilFunc] 51)) (.pointer (some ⟨w2.heap.size, 0, none⟩)) from .inr ⟨_, rfl, cell_at (heap_alloc_last _ _) 0⟩)
  have HG2 := Lib.hid (Grow.trans HG1.out (show Grow w2 (w2.alloc (.cells #[.pointer none, .slice none 0 0, .nilFunc] 51)) from Grow.alloc _ _))
  generalize w2.alloc (.cells #[.pointer none, .slice none 0 0, .nilFunc] 51) = w4 at *
  generalize w2.heap.size = B2 at *
  refine (step_no HN2.out).mono ?_
  rintro e w3 ⟨rfl, rfl⟩
  go_upto_region 7 with (fail)
  go_wp2_with fail
  refine (left_no (.inl rfl)).mono ?_
  rintro e w3 ⟨rfl, rfl⟩
  go_wp2_with fail
  refine (awake_ok (HT.out.grow HG2.out)).mono ?_
  rintro e w5 ⟨rfl, hg5⟩
  have HG5 := Lib.hid (Grow.trans HG2.out hg5)
  clear hg5
  go_wp2_with fail
  go_ret
  exact ⟨rfl, HG5.out⟩
#print axioms nil_ok
end Go.Proofs.YtieknecbheeekaaDoor
