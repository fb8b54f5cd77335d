/- cache: made, ask, Disk, pins, Pin, Drop, New: the walks. -/
import Derived.Test.YtieknecbheeekaaC1
import Derived.Laws.Cover3
set_option linter.unusedVariables false
set_option linter.unusedSimpArgs false
namespace Go.Proofs.Ytieknecbheeekaa
open Go.RowKit Go.Maps

theorem CParts.cells {w : World} {C bm bp B : Nat} {S : List Nat} {n : Nat} {s : CS} (h : CParts w C bm bp B S n s) : w.cell? ⟨C, 0, none⟩ = some (.pointer (some ⟨B, 0, none⟩)) ∧ w.cell? ⟨C, 1, none⟩ = some (.map (some bm)) ∧ w.cell? ⟨C, 2, none⟩ = some (.map (some bp)) :=
  ⟨cell_at h.obj 0, cell_at h.obj 1, cell_at h.obj 2⟩
theorem cmade_yes {w : World} {C B : Nat} {U : List Nat} {n : Nat} {s : CS} (h : IsCache w C B U n s) : Calls Try.prog 36 #[.pointer (some ⟨C, 0, none⟩)] w fun e w' => e = .returned (.bool true) ∧ w = w' := by
  obtain ⟨bm, bp, S, rfl, h⟩ := h
  obtain ⟨c0, _⟩ := h.cells
  clear h
  go_enter Try.func36, Try.ntmps36
  go_wp2
  go_ret
  exact ⟨rfl, rfl⟩
theorem cmade_nil (w : World) : Calls Try.prog 36 #[.pointer none] w fun e w' => e = .returned (.bool false) ∧ w = w' := by
  go_enter Try.func36, Try.ntmps36
  go_wp2
  go_ret
  exact ⟨rfl, rfl⟩
theorem cmade_empty {w : World} {C : Nat} (h : w.cell? ⟨C, 0, none⟩ = some (.pointer none)) : Calls Try.prog 36 #[.pointer (some ⟨C, 0, none⟩)] w fun e w' => e = .returned (.bool false) ∧ w = w' := by
  go_enter Try.func36, Try.ntmps36
  go_wp2
  go_ret
  exact ⟨rfl, rfl⟩
theorem cdisk_yes {w : World} {C B : Nat} {U : List Nat} {n : Nat} {s : CS} (h : IsCache w C B U n s) : Calls Try.prog 28 #[.pointer (some ⟨C, 0, none⟩)] w fun e w' => e = .returned (.pointer (some ⟨B, 0, none⟩)) ∧ w = w' := by
  have HC := Lib.hid h
  obtain ⟨bm, bp, S, rfl, h⟩ := h
  obtain ⟨c0, _⟩ := h.cells
  clear h
  go_enter Try.func28, Try.ntmps28
  go_wp2_with fail
  refine (cmade_yes HC.out).mono ?_
  rintro e w' ⟨rfl, rfl⟩
  go_wp2_with fail
  go_ret
  exact ⟨rfl, rfl⟩
/-- the first error of a call about a block -/
def CS.askI (s : CS) (b : Int) : Int := if 0 ≤ b ∧ b < s.d.safe.length then 0 else 2
set_option maxHeartbeats 1000000 in
theorem cask_any {w : World} {C B : Nat} {U : List Nat} {n : Nat} {s : CS} (h : IsCache w C B U n s) (b : Int) : Calls Try.prog 24 #[.pointer (some ⟨C, 0, none⟩), .int .i64 b] w fun e w' => e = .returned (.int .i64 (s.askI b)) ∧ w = w' := by
  have HC := Lib.hid h
  obtain ⟨bm, bp, S, rfl, h⟩ := h
  obtain ⟨c0, _⟩ := h.cells
  have HBk := Lib.hid (blocks_any h.disk)
  have hm := h.disk.one.2.1
  have HW := Lib.hid (show s.askI b = if 0 ≤ b ∧ b < s.d.safe.length then 0 else 2 from rfl)
  clear h
  by_cases h0 : b < 0
  · rw [if_neg (by omega)] at HW
    go_enter Try.func24, Try.ntmps24
    go_wp2_with fail
    refine (cmade_yes HC.out).mono ?_
    rintro e w' ⟨rfl, rfl⟩
    go_wp2_with fail
    go_ret
    exact ⟨ret_int HW.out.symm, rfl⟩
  · have d0 : decide (b < 0) = false := by simpa using h0
    by_cases h1 : b < s.d.safe.length
    · rw [if_pos (by omega)] at HW
      generalize s.d.safe.length = N at *
      have d1 : decide ((N : Int) ≤ b) = false := by simpa using h1
      go_enter Try.func24, Try.ntmps24
      go_wp2_with fail
      refine (cmade_yes HC.out).mono ?_
      rintro e w' ⟨rfl, rfl⟩
      go_wp2_with fail
      refine HBk.out.mono ?_
      rintro e w' ⟨rfl, rfl⟩
      go_wp2_with fail
      go_ret
      exact ⟨ret_int HW.out.symm, rfl⟩
    · rw [if_neg (by omega)] at HW
      generalize s.d.safe.length = N at *
      have d1 : decide ((N : Int) ≤ b) = true := by simp; omega
      go_enter Try.func24, Try.ntmps24
      go_wp2_with fail
      refine (cmade_yes HC.out).mono ?_
      rintro e w' ⟨rfl, rfl⟩
      go_wp2_with fail
      refine HBk.out.mono ?_
      rintro e w' ⟨rfl, rfl⟩
      go_wp2_with fail
      go_ret
      exact ⟨ret_int HW.out.symm, rfl⟩
theorem zeroU (w : World) : (zeroValue 108).run Try.prog w = .ok (.agg #[]) w := by kernel_rfl
def newC (d : DS) : CS := { d := d, f := fun _ => none, p := fun _ => false }
set_option maxHeartbeats 1000000 in
theorem cnew_ok {w : World} {B : Nat} {S : List Nat} {d : DS} (h : IsDisk w B S d) : Calls Try.prog 6 #[.pointer (some ⟨B, 0, none⟩)] w fun e w' => ∃ C U, e = .returned (.tuple #[.pointer (some ⟨C, 0, none⟩), .int .i64 0]) ∧ IsCache w' C B U 0 (newC d) ∧ Grow w w' ∧ ∀ k ∈ U, k ∈ S ∨ w.heap.size ≤ k := by
  have HD := Lib.hid h
  have HBk := Lib.hid (blocks_any h)
  have h1 := h.one
  have HLT := Lib.hid h.lt
  obtain ⟨N, hN⟩ : ∃ N, N = d.safe.length := ⟨_, rfl⟩
  rw [← hN] at HBk h1
  have e0 : ((N : Int) == 0) = false := by simp; omega
  have hmm := @run_makeMap Try.prog
  clear h hN
  go_enter Try.func6, Try.ntmps6
  go_wp2_with fail
  refine HBk.out.mono ?_
  rintro e w' ⟨rfl, rfl⟩
  go_wp2_with fail
  go_ret2
  refine ⟨w.heap.size + 2, (w.heap.size + 2) :: w.heap.size :: (w.heap.size + 1) :: S, rfl, ⟨w.heap.size, w.heap.size + 1, S, rfl, ?_⟩, Grow.trans (Grow.alloc w _) (Grow.trans (Grow.alloc _ _) (Grow.alloc _ _)), ?_⟩
  · constructor
    · have := heap_alloc_last ((w.alloc (.map #[] 0)).alloc (.map #[] 0)) (.cells #[.pointer (some ⟨B, 0, none⟩), .map (some w.heap.size), .map (some (w.heap.size + 1))] 73)
      simpa using this
    · exact HD.out.kept (((Touch.alloc [] w _).trans (Touch.alloc [] _ _) (by simp)).trans (Touch.alloc [] _ _) (by simp)) (by simp)
    · exact ⟨.map [], ((World.ownsMap_made w _ _ _).alloc _).alloc _, HMap.empty _⟩
    · refine ⟨.map [], ?_, fun i => rfl⟩
      have := (World.ownsMap_made (H := Unit) (w.alloc (.map #[] 0)) Try.prog 3 unitElem).alloc (.cells #[.pointer (some ⟨B, 0, none⟩), .map (some w.heap.size), .map (some (w.heap.size + 1))] 73)
      simpa using this
    · intro hm; have := HLT.out _ hm; omega
    · intro hm; have := HLT.out _ hm; omega
    · intro hm; have := HLT.out _ hm; omega
    · omega
  · intro k hk
    simp only [List.mem_cons] at hk
    rcases hk with rfl | rfl | rfl | hk
    · exact .inr (by omega)
    · exact .inr (by omega)
    · exact .inr (by omega)
    · exact .inl hk
#print axioms cnew_ok
end Go.Proofs.Ytieknecbheeekaa
