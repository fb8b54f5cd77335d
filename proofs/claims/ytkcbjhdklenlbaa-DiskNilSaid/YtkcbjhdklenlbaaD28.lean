/- A disk that nobody made: what each method answers. -/
import Derived.Test.YtkcbjhdklenlbaaD26
set_option linter.unusedVariables false
set_option linter.unusedSimpArgs false
namespace Go.Proofs.Ytkcbjhdklenlbaa
open Go.RowKit

/-- a pointer at which there is no disk -/
def NoDisk (w : World) (v : Value) : Prop := ∀ w', Grow w w' → Calls Try.prog 30 #[v] w' fun e w'' => e = .returned (.bool false) ∧ w' = w''
theorem NoDisk.here {w : World} {v : Value} (h : NoDisk w v) : Calls Try.prog 30 #[v] w fun e w'' => e = .returned (.bool false) ∧ w = w'' := h w (Grow.refl w)
theorem NoDisk.later {w w' : World} {v : Value} (h : NoDisk w v) (hg : Grow w w') : NoDisk w' v := fun w2 h2 => h w2 (hg.trans h2)
theorem noDisk_nil (w : World) : NoDisk w (.pointer none) := fun w' _ => made_nil w'
theorem noDisk_empty {w : World} {B : Nat} (hB : B < w.heap.size) (h : w.cell? ⟨B, 0, none⟩ = some (.slice none 0 0)) : NoDisk w (.pointer (some ⟨B, 0, none⟩)) := fun w' hg => made_empty ((hg.cell (p := ⟨B, 0, none⟩) hB).trans h)
theorem nd_refuseAt {w : World} {v : Value} (h : NoDisk w v) (b : Int) : Calls Try.prog 33 #[v, .int .i64 b] w fun e w' => e = .returned (.int .i64 1) ∧ w = w' := by
  have HV := Lib.hid h
  clear h
  go_enter Try.func33, Try.ntmps33
  go_wp2_with fail
  refine (refuse_no HV.out.here).mono ?_
  rintro e w' ⟨rfl, rfl⟩
  go_wp2_with fail
  go_ret
  exact ⟨rfl, rfl⟩
theorem read_no {w : World} {v : Value} (h : NoDisk w v) (b : Int) : Calls Try.prog 19 #[v, .int .i64 b] w fun e w' => e = .returned (.tuple #[.agg (bc zeroB).toArray, .int .i64 1]) ∧ Grow w w' :=
  read_refused b 1 rfl (fun w' hg => nd_refuseAt (h.later hg) b)
theorem write_no {w : World} {v : Value} (h : NoDisk w v) (b : Int) (x : Blk) : Calls Try.prog 22 #[v, .int .i64 b, .agg (bc x).toArray] w fun e w' => e = .returned (.int .i64 1) ∧ Grow w w' :=
  write_refused b 1 x rfl (fun w' hg => nd_refuseAt (h.later hg) b)
theorem flush_no {w : World} {v : Value} (h : NoDisk w v) : Calls Try.prog 24 #[v] w fun e w' => e = .returned (.int .i64 1) ∧ w = w' := by
  have HV := Lib.hid h
  clear h
  go_enter Try.func24, Try.ntmps24
  go_wp2_with fail
  refine (refuse_no HV.out.here).mono ?_
  rintro e w' ⟨rfl, rfl⟩
  go_wp2_with fail
  go_ret
  exact ⟨rfl, rfl⟩
theorem dead_no {w : World} {v : Value} (h : NoDisk w v) : Calls Try.prog 23 #[v] w fun e w' => e = .returned (.bool false) ∧ w = w' := by
  have HV := Lib.hid h
  clear h
  go_enter Try.func23, Try.ntmps23
  go_wp2_with fail
  refine HV.out.here.mono ?_
  rintro e w' ⟨rfl, rfl⟩
  go_wp2_with fail
  go_ret
  exact ⟨rfl, rfl⟩
theorem blocks_no {w : World} {v : Value} (h : NoDisk w v) : Calls Try.prog 18 #[v] w fun e w' => e = .returned (.int .i64 0) ∧ w = w' := by
  have HV := Lib.hid h
  clear h
  go_enter Try.func18, Try.ntmps18
  go_wp2_with fail
  refine HV.out.here.mono ?_
  rintro e w' ⟨rfl, rfl⟩
  go_wp2_with fail
  go_ret
  exact ⟨rfl, rfl⟩
theorem waiting_no {w : World} {v : Value} (h : NoDisk w v) : Calls Try.prog 16 #[v] w fun e w' => e = .returned (.int .i64 0) ∧ w = w' := by
  have HV := Lib.hid h
  clear h
  go_enter Try.func16, Try.ntmps16
  go_wp2_with fail
  refine HV.out.here.mono ?_
  rintro e w' ⟨rfl, rfl⟩
  go_wp2_with fail
  go_ret
  exact ⟨rfl, rfl⟩
theorem acts_no {w : World} {v : Value} (h : NoDisk w v) : Calls Try.prog 17 #[v] w fun e w' => e = .returned (.int .i64 0) ∧ w = w' := by
  have HV := Lib.hid h
  clear h
  go_enter Try.func17, Try.ntmps17
  go_wp2_with fail
  refine HV.out.here.mono ?_
  rintro e w' ⟨rfl, rfl⟩
  go_wp2_with fail
  go_ret
  exact ⟨rfl, rfl⟩
theorem image_no {w : World} {v : Value} (h : NoDisk w v) : Calls Try.prog 11 #[v] w fun e w' => e = .returned (.slice none 0 0) ∧ w = w' := by
  have HV := Lib.hid h
  clear h
  go_enter Try.func11, Try.ntmps11
  go_wp2_with fail
  refine HV.out.here.mono ?_
  rintro e w' ⟨rfl, rfl⟩
  go_wp2_with fail
  go_ret
  exact ⟨rfl, rfl⟩
theorem safe_no {w : World} {v : Value} (h : NoDisk w v) : Calls Try.prog 12 #[v] w fun e w' => e = .returned (.slice none 0 0) ∧ w = w' := by
  have HV := Lib.hid h
  clear h
  go_enter Try.func12, Try.ntmps12
  go_wp2_with fail
  refine HV.out.here.mono ?_
  rintro e w' ⟨rfl, rfl⟩
  go_wp2_with fail
  go_ret
  exact ⟨rfl, rfl⟩
theorem power_no {w : World} {v : Value} (h : NoDisk w v) (a : Int) : Calls Try.prog 21 #[v, .int .i64 a] w fun e w' => (∃ x, e = .returned x) ∧ w = w' := by
  have HV := Lib.hid h
  clear h
  go_enter Try.func21, Try.ntmps21
  go_wp2_with fail
  refine HV.out.here.mono ?_
  rintro e w' ⟨rfl, rfl⟩
  go_wp2_with fail
  (try simp only [Exit.inBlock, Exit.then]); refine bodyPost_ret (results_none rfl _ _ _) rfl ?_
  exact ⟨⟨_, rfl⟩, rfl⟩
theorem crash_no {w : World} {v : Value} (h : NoDisk w v) (a : Value) : Calls Try.prog 25 #[v, a] w fun e w' => (∃ x, e = .returned x) ∧ w = w' := by
  have HV := Lib.hid h
  clear h
  go_enter Try.func25, Try.ntmps25
  go_wp2_with fail
  refine HV.out.here.mono ?_
  rintro e w' ⟨rfl, rfl⟩
  go_wp2_with fail
  (try simp only [Exit.inBlock, Exit.then]); refine bodyPost_ret (results_none rfl _ _ _) rfl ?_
  exact ⟨⟨_, rfl⟩, rfl⟩
#print axioms crash_no
end Go.Proofs.Ytkcbjhdklenlbaa
