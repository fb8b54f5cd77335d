/- CommitNil's machines: New over no cache, Step and Left of none; commit.actions as a value. -/
import Derived.Test.YtieknecbheeekaaDoorA1
set_option linter.unusedVariables false
set_option linter.unusedSimpArgs false
namespace Go.Proofs.YtieknecbheeekaaDoor
open Go.RowKit Go.Maps Go.Shelf
attribute [local go_sem] Oper.semAt_some

theorem madeC_nil (w : World) : Calls Tryd.prog 34 #[.pointer none] w fun e w' => e = .returned (.bool false) ∧ w = w' := by
  go_enter Tryd.func34, Tryd.ntmps34
  go_wp2
  go_ret
  exact ⟨rfl, rfl⟩
theorem madeC_none {B : Nat} {w : World} (h : w.cell? ⟨B, 0, none⟩ = some (.pointer none)) : Calls Tryd.prog 34 #[.pointer (some ⟨B, 0, none⟩)] w fun e w' => e = .returned (.bool false) ∧ w = w' := by
  go_enter Tryd.func34, Tryd.ntmps34
  go_wp2
  go_ret
  exact ⟨rfl, rfl⟩
theorem madeM_nil (w : World) : Calls Tryd.prog 19 #[.pointer none] w fun e w' => e = .returned (.bool false) ∧ w = w' := by
  go_enter Tryd.func19, Tryd.ntmps19
  go_wp2
  go_ret
  exact ⟨rfl, rfl⟩
theorem madeM_none {B : Nat} {w : World} (h : w.cell? ⟨B, 0, none⟩ = some (.pointer none)) : Calls Tryd.prog 19 #[.pointer (some ⟨B, 0, none⟩)] w fun e w' => e = .returned (.bool false) ∧ w = w' := by
  go_enter Tryd.func19, Tryd.ntmps19
  go_wp2
  go_ret
  exact ⟨rfl, rfl⟩
/-- a pointer at nothing, or at a record that begins with a pointer at nothing -/
def NoneAt (w : World) (p : Value) : Prop := p = .pointer none ∨ ∃ B, p = .pointer (some ⟨B, 0, none⟩) ∧ w.cell? ⟨B, 0, none⟩ = some (.pointer none)
theorem madeC_no {w : World} {p : Value} (h : NoneAt w p) : Calls Tryd.prog 34 #[p] w fun e w' => e = .returned (.bool false) ∧ w = w' := by
  rcases h with rfl | ⟨B, rfl, h⟩
  · exact madeC_nil w
  · exact madeC_none h
theorem madeM_no {w : World} {p : Value} (h : NoneAt w p) : Calls Tryd.prog 19 #[p] w fun e w' => e = .returned (.bool false) ∧ w = w' := by
  rcases h with rfl | ⟨B, rfl, h⟩
  · exact madeM_nil w
  · exact madeM_none h
theorem disk_no {w : World} {p : Value} (h : NoneAt w p) : Calls Tryd.prog 16 #[p] w fun e w' => e = .returned (.pointer none) ∧ w = w' := by
  have H := Lib.hid h
  clear h
  go_enter Tryd.func16, Tryd.ntmps16
  go_wp2_with fail
  refine (madeC_no H.out).mono ?_
  rintro e w' ⟨rfl, rfl⟩
  go_wp2_with fail
  go_ret
  exact ⟨rfl, rfl⟩
theorem new_no {w : World} {p : Value} (h : NoneAt w p) (l : Value) : Calls Tryd.prog 6 #[p, l] w fun e w' => e = .returned (.tuple #[.pointer none, .int .i64 1]) ∧ w = w' := by
  have H := Lib.hid h
  clear h
  go_enter Tryd.func6, Tryd.ntmps6
  go_wp2_with fail
  refine (disk_no H.out).mono ?_
  rintro e w' ⟨rfl, rfl⟩
  go_wp2_with fail
  go_ret2
  exact ⟨rfl, rfl⟩
theorem step_no {w : World} {p : Value} (h : NoneAt w p) : Calls Tryd.prog 7 #[p] w fun e w' => e = .returned (.tuple #[.bool false, .int .i64 1]) ∧ w = w' := by
  have H := Lib.hid h
  clear h
  go_enter Tryd.func7, Tryd.ntmps7
  go_wp2_with fail
  refine (madeM_no H.out).mono ?_
  rintro e w' ⟨rfl, rfl⟩
  go_wp2_with fail
  go_ret2
  exact ⟨rfl, rfl⟩
theorem left_no {w : World} {p : Value} (h : NoneAt w p) : Calls Tryd.prog 8 #[p] w fun e w' => e = .returned (.int .i64 0) ∧ w = w' := by
  have H := Lib.hid h
  clear h
  go_enter Tryd.func8, Tryd.ntmps8
  go_wp2_with fail
  refine (madeM_no H.out).mono ?_
  rintro e w' ⟨rfl, rfl⟩
  go_wp2_with fail
  go_ret
  exact ⟨rfl, rfl⟩
#print axioms left_no
/-- commit.actions: the iterator's value -/
theorem actions_ok (ao ap ah ab : Option Addr) (no co np cp nh ch nb cb : Nat) (w : World) : Calls Tryd.prog 15 #[(.slice ao no co), (.slice ap np cp), (.slice ah nh ch), (.slice ab nb cb)] w fun e w' => e = .returned (.func (.func 33) #[] #[.pointer (some ⟨w.heap.size, 0, none⟩), .pointer (some ⟨w.heap.size + 2, 0, none⟩), .pointer (some ⟨w.heap.size + 3, 0, none⟩), .pointer (some ⟨w.heap.size + 1, 0, none⟩)]) ∧
    w' = (((w.alloc (.cells #[(.slice ao no co)] 26)).alloc (.cells #[(.slice ap np cp)] 26)).alloc (.cells #[(.slice ah nh ch)] 57)).alloc (.cells #[(.slice ab nb cb)] 57) := by
  go_enter Tryd.func15, Tryd.ntmps15
  go_wp2
  go_ret
  exact ⟨rfl, rfl⟩
#print axioms actions_ok
end Go.Proofs.YtieknecbheeekaaDoor
