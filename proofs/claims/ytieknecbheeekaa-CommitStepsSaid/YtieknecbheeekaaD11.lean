/- Disk.Write refused; Power. -/
import Derived.Test.YtieknecbheeekaaD10
set_option linter.unusedVariables false
set_option linter.unusedSimpArgs false
namespace Go.Proofs.Ytieknecbheeekaa
open Go.RowKit

theorem write_refused {w : World} {v : Value} (b c : Int) (x : Blk) (hc : (c != 0) = true) (hr : ∀ w', Grow w w' → Calls Try.prog 47 #[v, .int .i64 b] w' fun e w'' => e = .returned (.int .i64 c) ∧ w' = w'') :
    Calls Try.prog 41 #[v, .int .i64 b, .agg (bc x).toArray] w fun e w' => e = .returned (.int .i64 c) ∧ Grow w w' := by
  have HR := Lib.hid hr
  clear hr
  generalize (bc x).toArray = X at *
  go_enter Try.func41, Try.ntmps41
  go_wp2_with fail
  refine (HR.out _ (Grow.alloc _ _)).mono ?_
  rintro e w' ⟨rfl, rfl⟩
  go_wp2_with fail
  go_ret
  exact ⟨rfl, Grow.alloc _ _⟩
def DS.powered (d : DS) (a : Int) : DS := { d with set := decide (0 ≤ a), left := if 0 ≤ a then a else 0 }
set_option maxHeartbeats 2000000 in
theorem power_any {w : World} {B : Nat} {S : List Nat} {d : DS} (h : IsDisk w B S d) (a : Int) : Calls Try.prog 10 #[.pointer (some ⟨B, 0, none⟩), .int .i64 a] w fun e w' => (∃ v, e = .returned v) ∧ IsDisk w' B S (d.powered a) ∧ Touch [B] w w' := by
  have HD := Lib.hid h
  obtain ⟨gs, cs, gl, cl, vw, h⟩ := h
  by_cases ha : 0 ≤ a
  · have h4 := h.put 4 (.bool true) d.acts true d.left rfl
    have h5 := h4.put 5 (.int .i64 a) d.acts true a rfl
    obtain ⟨_, _, _, _, c4, c5⟩ := h.cells
    obtain ⟨_, _, _, _, e4, e5⟩ := h4.cells
    have f4 := h.free 4
    have f5 := h4.free 5
    dsimp only at e5
    have HF := Lib.hid (show d.powered a = { d with acts := d.acts, set := true, left := a } by unfold DS.powered; rw [if_pos ha, decide_eq_true ha])
    have H5 := Lib.hid h5
    have d1 : decide (0 ≤ a) = true := by simpa using ha
    have hmx : max a 0 = a := by omega
    clear h h4 h5 c5 e4
    go_enter Try.func10, Try.ntmps10
    go_wp2_with fail
    refine (made_yes HD.out).mono ?_
    rintro e w' ⟨rfl, rfl⟩
    go_wp2_with fail
    go_end0
    exact ⟨⟨_, rfl⟩, by rw [HF.out]; exact ⟨gs, cs, gl, cl, vw, H5.out⟩, (Touch.setCell w (by simp) _).trans (Touch.setCell (S := [B]) _ (by simp) _) (fun i hi => .inl hi)⟩
  · have h4 := h.put 4 (.bool false) d.acts false d.left rfl
    have h5 := h4.put 5 (.int .i64 0) d.acts false 0 rfl
    obtain ⟨_, _, _, _, c4, c5⟩ := h.cells
    obtain ⟨_, _, _, _, e4, e5⟩ := h4.cells
    have f4 := h.free 4
    have f5 := h4.free 5
    dsimp only at e5
    have HF := Lib.hid (show d.powered a = { d with acts := d.acts, set := false, left := 0 } by unfold DS.powered; rw [if_neg ha, decide_eq_false ha])
    have H5 := Lib.hid h5
    have d1 : decide (0 ≤ a) = false := by simpa using ha
    have hmx : max a 0 = 0 := by omega
    clear h h4 h5 c5 e4
    go_enter Try.func10, Try.ntmps10
    go_wp2_with fail
    refine (made_yes HD.out).mono ?_
    rintro e w' ⟨rfl, rfl⟩
    go_wp2_with fail
    go_end0
    exact ⟨⟨_, rfl⟩, by rw [HF.out]; exact ⟨gs, cs, gl, cl, vw, H5.out⟩, (Touch.setCell w (by simp) _).trans (Touch.setCell (S := [B]) _ (by simp) _) (fun i hi => .inl hi)⟩
#print axioms power_any
end Go.Proofs.Ytieknecbheeekaa
