/- What geo.Inode and the document's Number compute: the walks. -/
import Derived.Test.YtgakdaohhbdjoaaG3
import Derived.Test.YtgakdaohhbdjoaaG2
set_option linter.unusedVariables false
set_option linter.unusedSimpArgs false
namespace Go.Proofs.Ytgakdaohhbdjoaa
open Go.RowKit

set_option maxHeartbeats 1000000 in
theorem rnumber_yes (gr sz ni jr k b : Int) (h : May gr sz ni jr) (h1 : 0 ≤ k) (h2 : k < gr) (h3 : 0 ≤ b) (h4 : b < ni) (w : World) :
    Calls Try.prog 14 #[gv gr sz ni jr, .int .i64 k, .int .i64 b] w fun e w' => e = .returned (.int .i64 (k * ni + b + 1)) ∧ Grow w w' := by
  have HM := Lib.hid h
  obtain ⟨g1, g2, g3, g4, g5, g6, _, g8, g9, _⟩ := h
  have hb : 0 ≤ k * ni ∧ k * ni ≤ 256 := by
    have a : k = 0 ∨ k = 1 ∨ k = 2 ∨ k = 3 := by omega
    rcases a with rfl | rfl | rfl | rfl <;> omega
  have d1 : decide (k < 0) = false := by simp; omega
  have d2 : decide (gr ≤ k) = false := by simp; omega
  have d3 : decide (b < 0) = false := by simp; omega
  have d4 : decide (ni ≤ b) = false := by simp; omega
  go_enter Try.func14, Try.ntmps14
  go_wp2_with fail
  refine (rmay_yes gr sz ni jr HM.out _).mono ?_
  rintro e w1 ⟨rfl, hg⟩
  obtain ⟨c0, c1, c2, c3⟩ := box_at hg
  have HG := Lib.hid hg
  clear hg
  go_wp2_with fail
  go_ret
  refine ⟨ret_int ?_, (Grow.alloc _ _).trans HG.out⟩
  omega
set_option maxHeartbeats 1000000 in
theorem rnumber_no (gr sz ni jr k b : Int) (h : ¬ (May gr sz ni jr ∧ 0 ≤ k ∧ k < gr ∧ 0 ≤ b ∧ b < ni)) (w : World) :
    Calls Try.prog 14 #[gv gr sz ni jr, .int .i64 k, .int .i64 b] w fun e w' => e = .returned (.int .i64 0) ∧ Grow w w' := by
  by_cases hm : May gr sz ni jr
  case neg =>
    have HM := Lib.hid hm
    clear hm h
    go_enter Try.func14, Try.ntmps14
    go_wp2_with fail
    refine (rmay_no gr sz ni jr HM.out _).mono ?_
    rintro e w1 ⟨rfl, hg⟩
    obtain ⟨c0, c1, c2, c3⟩ := box_at hg
    have HG := Lib.hid hg
    clear hg
    go_wp2_with fail
    go_ret
    exact ⟨rfl, (Grow.alloc _ _).trans HG.out⟩
  have HM := Lib.hid hm
  have h' : k < 0 ∨ gr ≤ k ∨ b < 0 ∨ ni ≤ b := by
    by_cases a1 : k < 0
    · exact .inl a1
    by_cases a2 : gr ≤ k
    · exact .inr (.inl a2)
    by_cases a3 : b < 0
    · exact .inr (.inr (.inl a3))
    by_cases a4 : ni ≤ b
    · exact .inr (.inr (.inr a4))
    exact absurd ⟨hm, by omega, by omega, by omega, by omega⟩ h
  clear h hm
  by_cases h1 : k < 0
  · clear h'
    go_enter Try.func14, Try.ntmps14
    go_wp2_with fail
    refine (rmay_yes gr sz ni jr HM.out _).mono ?_
    rintro e w1 ⟨rfl, hg⟩
    obtain ⟨c0, c1, c2, c3⟩ := box_at hg
    have HG := Lib.hid hg
    clear hg
    go_wp2_with fail
    go_ret
    exact ⟨rfl, (Grow.alloc _ _).trans HG.out⟩
  by_cases h2 : gr ≤ k
  · clear h'
    go_enter Try.func14, Try.ntmps14
    go_wp2_with fail
    refine (rmay_yes gr sz ni jr HM.out _).mono ?_
    rintro e w1 ⟨rfl, hg⟩
    obtain ⟨c0, c1, c2, c3⟩ := box_at hg
    have HG := Lib.hid hg
    clear hg
    go_wp2_with fail
    go_ret
    exact ⟨rfl, (Grow.alloc _ _).trans HG.out⟩
  by_cases h3 : b < 0
  · clear h'
    go_enter Try.func14, Try.ntmps14
    go_wp2_with fail
    refine (rmay_yes gr sz ni jr HM.out _).mono ?_
    rintro e w1 ⟨rfl, hg⟩
    obtain ⟨c0, c1, c2, c3⟩ := box_at hg
    have HG := Lib.hid hg
    clear hg
    go_wp2_with fail
    go_ret
    exact ⟨rfl, (Grow.alloc _ _).trans HG.out⟩
  · have h4 : ni ≤ b := by omega
    clear h'
    go_enter Try.func14, Try.ntmps14
    go_wp2_with fail
    refine (rmay_yes gr sz ni jr HM.out _).mono ?_
    rintro e w1 ⟨rfl, hg⟩
    obtain ⟨c0, c1, c2, c3⟩ := box_at hg
    have HG := Lib.hid hg
    clear hg
    go_wp2_with fail
    go_ret
    exact ⟨rfl, (Grow.alloc _ _).trans HG.out⟩
theorem rnumber_any (gr sz ni jr k b : Int) (w : World) :
    Calls Try.prog 14 #[gv gr sz ni jr, .int .i64 k, .int .i64 b] w fun e w' => e = .returned (.int .i64 (numberOf gr sz ni jr k b)) ∧ Grow w w' := by
  unfold numberOf
  by_cases h : May gr sz ni jr ∧ 0 ≤ k ∧ k < gr ∧ 0 ≤ b ∧ b < ni
  · rw [if_pos h]; exact rnumber_yes gr sz ni jr k b h.1 h.2.1 h.2.2.1 h.2.2.2.1 h.2.2.2.2 w
  · rw [if_neg h]; exact rnumber_no gr sz ni jr k b h w

set_option maxHeartbeats 1000000 in
theorem inode_yes (gr sz ni jr ino : Int) (h : May gr sz ni jr) (h1 : 1 ≤ ino) (h2 : ino ≤ gr * ni) (w : World) :
    Calls Try.prog 10 #[gv gr sz ni jr, .int .i64 ino] w fun e w' =>
      e = .returned (.tuple #[.int .i64 (2 + jr + (ino - 1) / ni * sz + 2 + (ino - 1) % ni / 4), .int .i64 ((ino - 1) % ni % 4 * 64), .bool true]) ∧ Grow w w' := by
  have HM := Lib.hid h
  have H2 := Lib.hid h2
  obtain ⟨g1, g2, g3, g4, g5, g6, _, g8, g9, _⟩ := h
  have hb := mul_gi g1 g2 g5 g6
  have q1 : 0 ≤ (ino - 1) / ni := Int.ediv_nonneg (by omega) (by omega)
  have q2 : (ino - 1) / ni < gr := Int.ediv_lt_of_lt_mul (by omega) (by omega)
  have q3 : 0 ≤ (ino - 1) % ni := Int.emod_nonneg _ (by omega)
  have q4 : (ino - 1) % ni < ni := Int.emod_lt_of_pos _ (by omega)
  have HH := Lib.hid (fun w => home_yes gr sz ni jr ino HM.out h1 H2.out w)
  clear hb h2
  generalize (ino - 1) / ni = q at *
  generalize (ino - 1) % ni = r at *
  have hb : 0 ≤ q * sz ∧ q * sz ≤ 2048 := by
    have a : q = 0 ∨ q = 1 ∨ q = 2 ∨ q = 3 := by omega
    rcases a with rfl | rfl | rfl | rfl <;> omega
  go_enter Try.func10, Try.ntmps10
  go_wp2_with fail
  refine (HH.out _).mono ?_
  rintro e w1 ⟨rfl, hg⟩
  obtain ⟨c0, c1, c2, c3⟩ := box_at hg
  have HG := Lib.hid hg
  clear hg
  go_wp2_with fail
  refine (start_yes gr sz ni jr q HM.out q1 q2 _).mono ?_
  rintro e w2 ⟨rfl, hg⟩
  have HG2 := Lib.hid hg
  clear hg
  go_wp2_with fail
  go_ret3
  exact ⟨rfl, (Grow.alloc _ _).trans (HG.out.trans HG2.out)⟩
set_option maxHeartbeats 1000000 in
theorem inode_no (gr sz ni jr ino : Int) (h : ino < 1 ∨ nInodes gr sz ni jr < ino) (w : World) :
    Calls Try.prog 10 #[gv gr sz ni jr, .int .i64 ino] w fun e w' => e = .returned (.tuple #[.int .i64 0, .int .i64 0, .bool false]) ∧ Grow w w' := by
  have HM := Lib.hid h
  clear h
  go_enter Try.func10, Try.ntmps10
  go_wp2_with fail
  refine (home_no gr sz ni jr ino HM.out _).mono ?_
  rintro e w1 ⟨rfl, hg⟩
  have HG := Lib.hid hg
  clear hg
  go_wp2_with fail
  go_ret3
  exact ⟨rfl, (Grow.alloc _ _).trans HG.out⟩
end Go.Proofs.Ytgakdaohhbdjoaa
