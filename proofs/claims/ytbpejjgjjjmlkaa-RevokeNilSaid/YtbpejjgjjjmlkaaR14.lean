/- A table that nobody made: what each method answers. -/
import Derived.Test.YtbpejjgjjjmlkaaR11
set_option linter.unusedVariables false
set_option linter.unusedSimpArgs false
namespace Go.Proofs.Ytbpejjgjjjmlkaa
open Go.RowKit Go.Maps

/-- a pointer at which there is no table -/
def NoTab (w : World) (v : Value) : Prop := ∀ w', Grow w w' → Calls Try.prog 24 #[v] w' fun e w'' => e = .returned (.bool false) ∧ w' = w''
theorem NoTab.here {w : World} {v : Value} (h : NoTab w v) : Calls Try.prog 24 #[v] w fun e w'' => e = .returned (.bool false) ∧ w = w'' := h w (Grow.refl w)
theorem NoTab.later {w w' : World} {v : Value} (h : NoTab w v) (hg : Grow w w') : NoTab w' v := fun w2 h2 => h w2 (hg.trans h2)
theorem noTab_nil (w : World) : NoTab w (.pointer none) := fun w' _ => made_nil w'
theorem noTab_empty {w : World} {B : Nat} (hB : B < w.heap.size) (h : w.cell? ⟨B, 0, none⟩ = some (.map none)) : NoTab w (.pointer (some ⟨B, 0, none⟩)) := fun w' hg => made_empty ((hg.cell (p := ⟨B, 0, none⟩) hB).trans h)
theorem ask_no {w : World} {v : Value} (h : NoTab w v) (b : Value) : Calls Try.prog 30 #[v, b] w fun e w' => e = .returned (.int .i64 1) ∧ w = w' := by
  have HV := Lib.hid h
  clear h
  go_enter Try.func30, Try.ntmps30
  go_wp2_with fail
  refine (HV.out.here).mono ?_
  rintro e w' ⟨rfl, rfl⟩
  go_wp2_with fail
  go_ret
  exact ⟨rfl, rfl⟩
theorem add_no {w : World} {v : Value} (h : NoTab w v) (b s : Value) : Calls Try.prog 20 #[v, b, s] w fun e w' => e = .returned (.int .i64 1) ∧ w = w' := by
  have HV := Lib.hid h
  clear h
  go_enter Try.func20, Try.ntmps20
  go_wp2_with fail
  refine (ask_no HV.out b).mono ?_
  rintro e w' ⟨rfl, rfl⟩
  go_wp2_with fail
  go_ret
  exact ⟨rfl, rfl⟩
theorem cancel_no {w : World} {v : Value} (h : NoTab w v) (b s : Value) : Calls Try.prog 21 #[v, b, s] w fun e w' => e = .returned (.int .i64 1) ∧ w = w' := by
  have HV := Lib.hid h
  clear h
  go_enter Try.func21, Try.ntmps21
  go_wp2_with fail
  refine (ask_no HV.out b).mono ?_
  rintro e w' ⟨rfl, rfl⟩
  go_wp2_with fail
  go_ret
  exact ⟨rfl, rfl⟩
theorem last_no {w : World} {v : Value} (h : NoTab w v) (b : Value) : Calls Try.prog 10 #[v, b] w fun e w' => e = .returned (.tuple #[.int .u32 0, .bool false]) ∧ w = w' := by
  have HV := Lib.hid h
  clear h
  go_enter Try.func10, Try.ntmps10
  go_wp2_with fail
  refine (HV.out.here).mono ?_
  rintro e w' ⟨rfl, rfl⟩
  go_wp2_with fail
  go_ret2
  exact ⟨rfl, rfl⟩
theorem revoked_no {w : World} {v : Value} (h : NoTab w v) (b s : Value) : Calls Try.prog 11 #[v, b, s] w fun e w' => e = .returned (.bool false) ∧ w = w' := by
  have HV := Lib.hid h
  clear h
  go_enter Try.func11, Try.ntmps11
  go_wp2_with fail
  refine (last_no HV.out b).mono ?_
  rintro e w' ⟨rfl, rfl⟩
  go_wp2_with fail
  go_ret
  exact ⟨rfl, rfl⟩
theorem of_no {w : World} {v : Value} (h : NoTab w v) (s : Value) : Calls Try.prog 13 #[v, s] w fun e w' => e = .returned (.slice none 0 0) ∧ w = w' := by
  have HV := Lib.hid h
  clear h
  go_enter Try.func13, Try.ntmps13
  go_wp2_with fail
  refine (HV.out.here).mono ?_
  rintro e w' ⟨rfl, rfl⟩
  go_wp2_with fail
  go_ret
  exact ⟨rfl, rfl⟩
theorem len_no {w : World} {v : Value} (h : NoTab w v) : Calls Try.prog 12 #[v] w fun e w' => e = .returned (.int .i64 0) ∧ w = w' := by
  have HV := Lib.hid h
  clear h
  go_enter Try.func12, Try.ntmps12
  go_wp2_with fail
  refine (HV.out.here).mono ?_
  rintro e w' ⟨rfl, rfl⟩
  go_wp2_with fail
  go_ret
  exact ⟨rfl, rfl⟩
theorem drop_no {w : World} {v : Value} (h : NoTab w v) (s : Value) : Calls Try.prog 22 #[v, s] w fun e w' => e = .returned (.tuple #[]) ∧ w = w' := by
  have HV := Lib.hid h
  clear h
  go_enter Try.func22, Try.ntmps22
  go_wp2_with fail
  refine (HV.out.here).mono ?_
  rintro e w' ⟨rfl, rfl⟩
  go_wp2_with fail
  (try simp only [Exit.inBlock, Exit.then]); refine bodyPost_ret (results_none rfl _ _ _) rfl ?_
  exact ⟨rfl, rfl⟩
#print axioms drop_no
end Go.Proofs.Ytbpejjgjjjmlkaa
