/- What geo.May and the document's May compute: the walks. -/
import Derived.Test.YtgakdaohhbdjoaaG1
import Derived.WalkKit
import Derived.WalkSpells
import Derived.WalkLawsBesides
import Derived.Lib.Hide
set_option linter.unusedVariables false
set_option linter.unusedSimpArgs false
namespace Go.Proofs.Ytgakdaohhbdjoaa
open Go.RowKit

set_option maxHeartbeats 1000000 in
theorem rmay_yes (gr sz ni jr : Int) (h : May gr sz ni jr) (w : World) :
    Calls Try.prog 21 #[gv gr sz ni jr] w fun e w' => e = .returned (.bool true) ∧ Grow w w' := by
  obtain ⟨h1, h2, h3, h4, h5, h6, h7, h8, h9, h10, h11⟩ := h
  have hb := mul_bd h1 h2 h3 h4
  have e7 : (ni % 4 != 0) = false := by rw [h7]; rfl
  clear h7
  go_enter Try.func21, Try.ntmps21
  go_wp2
  go_ret
  exact ⟨rfl, Grow.alloc _ _⟩
set_option maxHeartbeats 1000000 in
theorem rmay_1 (gr sz ni jr : Int)  (h1 : gr < 1) (w : World) :
    Calls Try.prog 21 #[gv gr sz ni jr] w fun e w' => e = .returned (.bool false) ∧ Grow w w' := by
  go_enter Try.func21, Try.ntmps21
  go_wp2
  go_ret
  exact ⟨rfl, Grow.alloc _ _⟩
set_option maxHeartbeats 1000000 in
theorem rmay_2 (gr sz ni jr : Int) (h1 : ¬ (gr < 1)) (h2 : 4 < gr) (w : World) :
    Calls Try.prog 21 #[gv gr sz ni jr] w fun e w' => e = .returned (.bool false) ∧ Grow w w' := by
  go_enter Try.func21, Try.ntmps21
  go_wp2
  go_ret
  exact ⟨rfl, Grow.alloc _ _⟩
set_option maxHeartbeats 1000000 in
theorem rmay_3 (gr sz ni jr : Int) (h1 : ¬ (gr < 1)) (h2 : ¬ (4 < gr)) (h3 : sz < 16) (w : World) :
    Calls Try.prog 21 #[gv gr sz ni jr] w fun e w' => e = .returned (.bool false) ∧ Grow w w' := by
  have p1 : 1 ≤ gr := by omega
  have p2 : gr ≤ 4 := by omega
  go_enter Try.func21, Try.ntmps21
  go_wp2
  go_ret
  exact ⟨rfl, Grow.alloc _ _⟩
set_option maxHeartbeats 1000000 in
theorem rmay_4 (gr sz ni jr : Int) (h1 : ¬ (gr < 1)) (h2 : ¬ (4 < gr)) (h3 : ¬ (sz < 16)) (h4 : 512 < sz) (w : World) :
    Calls Try.prog 21 #[gv gr sz ni jr] w fun e w' => e = .returned (.bool false) ∧ Grow w w' := by
  have p1 : 1 ≤ gr := by omega
  have p2 : gr ≤ 4 := by omega
  go_enter Try.func21, Try.ntmps21
  go_wp2
  go_ret
  exact ⟨rfl, Grow.alloc _ _⟩
set_option maxHeartbeats 1000000 in
theorem rmay_5 (gr sz ni jr : Int) (h1 : ¬ (gr < 1)) (h2 : ¬ (4 < gr)) (h3 : ¬ (sz < 16)) (h4 : ¬ (512 < sz)) (h5 : ni < 4) (w : World) :
    Calls Try.prog 21 #[gv gr sz ni jr] w fun e w' => e = .returned (.bool false) ∧ Grow w w' := by
  have p1 : 1 ≤ gr := by omega
  have p2 : gr ≤ 4 := by omega
  have p3 : 16 ≤ sz := by omega
  have p4 : sz ≤ 512 := by omega
  have hb := mul_bd p1 p2 p3 p4
  go_enter Try.func21, Try.ntmps21
  go_wp2
  go_ret
  exact ⟨rfl, Grow.alloc _ _⟩
set_option maxHeartbeats 1000000 in
theorem rmay_6 (gr sz ni jr : Int) (h1 : ¬ (gr < 1)) (h2 : ¬ (4 < gr)) (h3 : ¬ (sz < 16)) (h4 : ¬ (512 < sz)) (h5 : ¬ (ni < 4)) (h6 : 64 < ni) (w : World) :
    Calls Try.prog 21 #[gv gr sz ni jr] w fun e w' => e = .returned (.bool false) ∧ Grow w w' := by
  have p1 : 1 ≤ gr := by omega
  have p2 : gr ≤ 4 := by omega
  have p3 : 16 ≤ sz := by omega
  have p4 : sz ≤ 512 := by omega
  have hb := mul_bd p1 p2 p3 p4
  go_enter Try.func21, Try.ntmps21
  go_wp2
  go_ret
  exact ⟨rfl, Grow.alloc _ _⟩
set_option maxHeartbeats 1000000 in
theorem rmay_7 (gr sz ni jr : Int) (h1 : ¬ (gr < 1)) (h2 : ¬ (4 < gr)) (h3 : ¬ (sz < 16)) (h4 : ¬ (512 < sz)) (h5 : ¬ (ni < 4)) (h6 : ¬ (64 < ni)) (h7 : ni % 4 ≠ 0) (w : World) :
    Calls Try.prog 21 #[gv gr sz ni jr] w fun e w' => e = .returned (.bool false) ∧ Grow w w' := by
  have p1 : 1 ≤ gr := by omega
  have p2 : gr ≤ 4 := by omega
  have p3 : 16 ≤ sz := by omega
  have p4 : sz ≤ 512 := by omega
  have hb := mul_bd p1 p2 p3 p4
  have p5 : 4 ≤ ni := by omega
  have p6 : ni ≤ 64 := by omega
  have e7 : (ni % 4 != 0) = true := by rw [bne_iff_ne]; omega
  clear h7
  go_enter Try.func21, Try.ntmps21
  go_wp2
  go_ret
  exact ⟨rfl, Grow.alloc _ _⟩
set_option maxHeartbeats 1000000 in
theorem rmay_8 (gr sz ni jr : Int) (h1 : ¬ (gr < 1)) (h2 : ¬ (4 < gr)) (h3 : ¬ (sz < 16)) (h4 : ¬ (512 < sz)) (h5 : ¬ (ni < 4)) (h6 : ¬ (64 < ni)) (h7 : ¬ (ni % 4 ≠ 0)) (h8 : jr < 40) (w : World) :
    Calls Try.prog 21 #[gv gr sz ni jr] w fun e w' => e = .returned (.bool false) ∧ Grow w w' := by
  have p1 : 1 ≤ gr := by omega
  have p2 : gr ≤ 4 := by omega
  have p3 : 16 ≤ sz := by omega
  have p4 : sz ≤ 512 := by omega
  have hb := mul_bd p1 p2 p3 p4
  have p5 : 4 ≤ ni := by omega
  have p6 : ni ≤ 64 := by omega
  have e7 : (ni % 4 != 0) = false := by rw [bne_eq_false_iff_eq]; omega
  clear h7
  go_enter Try.func21, Try.ntmps21
  go_wp2
  go_ret
  exact ⟨rfl, Grow.alloc _ _⟩
set_option maxHeartbeats 1000000 in
theorem rmay_9 (gr sz ni jr : Int) (h1 : ¬ (gr < 1)) (h2 : ¬ (4 < gr)) (h3 : ¬ (sz < 16)) (h4 : ¬ (512 < sz)) (h5 : ¬ (ni < 4)) (h6 : ¬ (64 < ni)) (h7 : ¬ (ni % 4 ≠ 0)) (h8 : ¬ (jr < 40)) (h9 : 256 < jr) (w : World) :
    Calls Try.prog 21 #[gv gr sz ni jr] w fun e w' => e = .returned (.bool false) ∧ Grow w w' := by
  have p1 : 1 ≤ gr := by omega
  have p2 : gr ≤ 4 := by omega
  have p3 : 16 ≤ sz := by omega
  have p4 : sz ≤ 512 := by omega
  have hb := mul_bd p1 p2 p3 p4
  have p5 : 4 ≤ ni := by omega
  have p6 : ni ≤ 64 := by omega
  have e7 : (ni % 4 != 0) = false := by rw [bne_eq_false_iff_eq]; omega
  clear h7
  go_enter Try.func21, Try.ntmps21
  go_wp2
  go_ret
  exact ⟨rfl, Grow.alloc _ _⟩
set_option maxHeartbeats 1000000 in
theorem rmay_10 (gr sz ni jr : Int) (h1 : ¬ (gr < 1)) (h2 : ¬ (4 < gr)) (h3 : ¬ (sz < 16)) (h4 : ¬ (512 < sz)) (h5 : ¬ (ni < 4)) (h6 : ¬ (64 < ni)) (h7 : ¬ (ni % 4 ≠ 0)) (h8 : ¬ (jr < 40)) (h9 : ¬ (256 < jr)) (h10 : sz < 3 + ni / 4) (w : World) :
    Calls Try.prog 21 #[gv gr sz ni jr] w fun e w' => e = .returned (.bool false) ∧ Grow w w' := by
  have p1 : 1 ≤ gr := by omega
  have p2 : gr ≤ 4 := by omega
  have p3 : 16 ≤ sz := by omega
  have p4 : sz ≤ 512 := by omega
  have hb := mul_bd p1 p2 p3 p4
  have p5 : 4 ≤ ni := by omega
  have p6 : ni ≤ 64 := by omega
  have p8 : 40 ≤ jr := by omega
  have p9 : jr ≤ 256 := by omega
  have e7 : (ni % 4 != 0) = false := by rw [bne_eq_false_iff_eq]; omega
  clear h7
  go_enter Try.func21, Try.ntmps21
  go_wp2
  go_ret
  exact ⟨rfl, Grow.alloc _ _⟩
set_option maxHeartbeats 1000000 in
theorem rmay_11 (gr sz ni jr : Int) (h1 : ¬ (gr < 1)) (h2 : ¬ (4 < gr)) (h3 : ¬ (sz < 16)) (h4 : ¬ (512 < sz)) (h5 : ¬ (ni < 4)) (h6 : ¬ (64 < ni)) (h7 : ¬ (ni % 4 ≠ 0)) (h8 : ¬ (jr < 40)) (h9 : ¬ (256 < jr)) (h10 : ¬ (sz < 3 + ni / 4)) (h11 : 2048 < 2 + jr + gr * sz) (w : World) :
    Calls Try.prog 21 #[gv gr sz ni jr] w fun e w' => e = .returned (.bool false) ∧ Grow w w' := by
  have p1 : 1 ≤ gr := by omega
  have p2 : gr ≤ 4 := by omega
  have p3 : 16 ≤ sz := by omega
  have p4 : sz ≤ 512 := by omega
  have hb := mul_bd p1 p2 p3 p4
  have p5 : 4 ≤ ni := by omega
  have p6 : ni ≤ 64 := by omega
  have p8 : 40 ≤ jr := by omega
  have p9 : jr ≤ 256 := by omega
  have e7 : (ni % 4 != 0) = false := by rw [bne_eq_false_iff_eq]; omega
  clear h7
  have d11 : decide (2 + jr + gr * sz ≤ 2048) = false := by simp; omega
  go_enter Try.func21, Try.ntmps21
  go_wp2
  go_ret
  exact ⟨rfl, Grow.alloc _ _⟩
theorem rmay_no (gr sz ni jr : Int) (h : ¬ May gr sz ni jr) (w : World) :
    Calls Try.prog 21 #[gv gr sz ni jr] w fun e w' => e = .returned (.bool false) ∧ Grow w w' := by
  by_cases h1 : gr < 1
  · exact rmay_1 gr sz ni jr h1 w
  by_cases h2 : 4 < gr
  · exact rmay_2 gr sz ni jr h1 h2 w
  by_cases h3 : sz < 16
  · exact rmay_3 gr sz ni jr h1 h2 h3 w
  by_cases h4 : 512 < sz
  · exact rmay_4 gr sz ni jr h1 h2 h3 h4 w
  by_cases h5 : ni < 4
  · exact rmay_5 gr sz ni jr h1 h2 h3 h4 h5 w
  by_cases h6 : 64 < ni
  · exact rmay_6 gr sz ni jr h1 h2 h3 h4 h5 h6 w
  by_cases h7 : ni % 4 ≠ 0
  · exact rmay_7 gr sz ni jr h1 h2 h3 h4 h5 h6 h7 w
  by_cases h8 : jr < 40
  · exact rmay_8 gr sz ni jr h1 h2 h3 h4 h5 h6 h7 h8 w
  by_cases h9 : 256 < jr
  · exact rmay_9 gr sz ni jr h1 h2 h3 h4 h5 h6 h7 h8 h9 w
  by_cases h10 : sz < 3 + ni / 4
  · exact rmay_10 gr sz ni jr h1 h2 h3 h4 h5 h6 h7 h8 h9 h10 w
  by_cases h11 : 2048 < 2 + jr + gr * sz
  · exact rmay_11 gr sz ni jr h1 h2 h3 h4 h5 h6 h7 h8 h9 h10 h11 w
  exact absurd (by unfold May; refine ⟨?_, ?_, ?_, ?_, ?_, ?_, ?_, ?_, ?_, ?_, ?_⟩ <;> omega) h
end Go.Proofs.Ytgakdaohhbdjoaa
