/- The law GeoNumbers: the walk, case by case. -/
import Derived.Test.YtgakdaohhbdjoaaG14
set_option linter.unusedVariables false
set_option linter.unusedSimpArgs false
namespace Go.Proofs.Ytgakdaohhbdjoaa
open Go.RowKit Go.Shelf

set_option maxRecDepth 100000 in
set_option maxHeartbeats 2000000 in
theorem nums_00 (gr sz ni jr a b N x i y k p m q n : Int) (HIN : Hid (∀ wq, Calls Try.prog 24 #[gv gr sz ni jr] wq fun e w' => e = .returned (.int .i64 N) ∧ Grow wq w')) (HHa : Hid (∀ wq, Calls Try.prog 12 #[gv gr sz ni jr, .int .i64 a] wq fun e w' => e = .returned (.tuple #[.int .i64 x, .int .i64 i, .bool false]) ∧ Grow wq w')) (HHb : Hid (∀ wq, Calls Try.prog 12 #[gv gr sz ni jr, .int .i64 b] wq fun e w' => e = .returned (.tuple #[.int .i64 y, .int .i64 k, .bool false]) ∧ Grow wq w')) (A1 : decide (1 ≤ a) = false) (B1 : decide (1 ≤ b) = false) (w : World) :
    Calls Try.prog 8 #[gv gr sz ni jr, .int .i64 a, .int .i64 b] w fun e w' => e = .returned (.bool true) ∧ Below w.heap.size w w' := by
  go_enter Try.func8, Try.ntmps8
  go_wp2_with fail
  refine (awake_ok _).mono ?_
  rintro e w1 ⟨rfl, hg⟩
  have HG1 := Lib.hid hg
  clear hg
  obtain ⟨c0, c1, c2, c3⟩ := box_at HG1.out
  go_wp2_with fail
  refine (HHa.out _).mono ?_
  rintro e w2 ⟨rfl, hg⟩
  have HG2 := Lib.hid (HG1.out.trans hg)
  clear hg c0 c1 c2 c3
  obtain ⟨c0, c1, c2, c3⟩ := box_at HG2.out
  go_wp2_with fail
  refine (HHb.out _).mono ?_
  rintro e w3 ⟨rfl, hg⟩
  have HG3 := Lib.hid (HG2.out.trans hg)
  clear hg c0 c1 c2 c3
  obtain ⟨c0, c1, c2, c3⟩ := box_at HG3.out
  go_wp2_with fail
  go_ret
  exact ⟨rfl, (Grow.alloc _ _).trans HG3.out⟩
set_option maxRecDepth 100000 in
set_option maxHeartbeats 2000000 in
theorem nums_01 (gr sz ni jr a b N x i y k p m q n : Int) (HIN : Hid (∀ wq, Calls Try.prog 24 #[gv gr sz ni jr] wq fun e w' => e = .returned (.int .i64 N) ∧ Grow wq w')) (HHa : Hid (∀ wq, Calls Try.prog 12 #[gv gr sz ni jr, .int .i64 a] wq fun e w' => e = .returned (.tuple #[.int .i64 x, .int .i64 i, .bool false]) ∧ Grow wq w')) (HHb : Hid (∀ wq, Calls Try.prog 12 #[gv gr sz ni jr, .int .i64 b] wq fun e w' => e = .returned (.tuple #[.int .i64 y, .int .i64 k, .bool false]) ∧ Grow wq w')) (A1 : decide (1 ≤ a) = false) (B1 : decide (1 ≤ b) = true) (B2 : decide (b ≤ N) = false) (w : World) :
    Calls Try.prog 8 #[gv gr sz ni jr, .int .i64 a, .int .i64 b] w fun e w' => e = .returned (.bool true) ∧ Below w.heap.size w w' := by
  go_enter Try.func8, Try.ntmps8
  go_wp2_with fail
  refine (awake_ok _).mono ?_
  rintro e w1 ⟨rfl, hg⟩
  have HG1 := Lib.hid hg
  clear hg
  obtain ⟨c0, c1, c2, c3⟩ := box_at HG1.out
  go_wp2_with fail
  refine (HHa.out _).mono ?_
  rintro e w2 ⟨rfl, hg⟩
  have HG2 := Lib.hid (HG1.out.trans hg)
  clear hg c0 c1 c2 c3
  obtain ⟨c0, c1, c2, c3⟩ := box_at HG2.out
  go_wp2_with fail
  refine (HHb.out _).mono ?_
  rintro e w3 ⟨rfl, hg⟩
  have HG3 := Lib.hid (HG2.out.trans hg)
  clear hg c0 c1 c2 c3
  obtain ⟨c0, c1, c2, c3⟩ := box_at HG3.out
  go_wp2_with fail
  refine (HIN.out _).mono ?_
  rintro e w4 ⟨rfl, hg⟩
  have HG4 := Lib.hid (HG3.out.trans hg)
  clear hg c0 c1 c2 c3
  obtain ⟨c0, c1, c2, c3⟩ := box_at HG4.out
  go_wp2_with fail
  go_ret
  exact ⟨rfl, (Grow.alloc _ _).trans HG4.out⟩
set_option maxRecDepth 100000 in
set_option maxHeartbeats 2000000 in
theorem nums_02 (gr sz ni jr a b N x i y k p m q n : Int) (HIN : Hid (∀ wq, Calls Try.prog 24 #[gv gr sz ni jr] wq fun e w' => e = .returned (.int .i64 N) ∧ Grow wq w')) (HHa : Hid (∀ wq, Calls Try.prog 12 #[gv gr sz ni jr, .int .i64 a] wq fun e w' => e = .returned (.tuple #[.int .i64 x, .int .i64 i, .bool false]) ∧ Grow wq w')) (HHb : Hid (∀ wq, Calls Try.prog 12 #[gv gr sz ni jr, .int .i64 b] wq fun e w' => e = .returned (.tuple #[.int .i64 y, .int .i64 k, .bool true]) ∧ Grow wq w')) (A1 : decide (1 ≤ a) = false) (B1 : decide (1 ≤ b) = true) (B2 : decide (b ≤ N) = true) (w : World) :
    Calls Try.prog 8 #[gv gr sz ni jr, .int .i64 a, .int .i64 b] w fun e w' => e = .returned (.bool true) ∧ Below w.heap.size w w' := by
  go_enter Try.func8, Try.ntmps8
  go_wp2_with fail
  refine (awake_ok _).mono ?_
  rintro e w1 ⟨rfl, hg⟩
  have HG1 := Lib.hid hg
  clear hg
  obtain ⟨c0, c1, c2, c3⟩ := box_at HG1.out
  go_wp2_with fail
  refine (HHa.out _).mono ?_
  rintro e w2 ⟨rfl, hg⟩
  have HG2 := Lib.hid (HG1.out.trans hg)
  clear hg c0 c1 c2 c3
  obtain ⟨c0, c1, c2, c3⟩ := box_at HG2.out
  go_wp2_with fail
  refine (HHb.out _).mono ?_
  rintro e w3 ⟨rfl, hg⟩
  have HG3 := Lib.hid (HG2.out.trans hg)
  clear hg c0 c1 c2 c3
  obtain ⟨c0, c1, c2, c3⟩ := box_at HG3.out
  go_wp2_with fail
  refine (HIN.out _).mono ?_
  rintro e w4 ⟨rfl, hg⟩
  have HG4 := Lib.hid (HG3.out.trans hg)
  clear hg c0 c1 c2 c3
  obtain ⟨c0, c1, c2, c3⟩ := box_at HG4.out
  go_wp2_with fail
  go_ret
  exact ⟨rfl, (Grow.alloc _ _).trans HG4.out⟩
set_option maxRecDepth 100000 in
set_option maxHeartbeats 2000000 in
theorem nums_10 (gr sz ni jr a b N x i y k p m q n : Int) (HIN : Hid (∀ wq, Calls Try.prog 24 #[gv gr sz ni jr] wq fun e w' => e = .returned (.int .i64 N) ∧ Grow wq w')) (HHa : Hid (∀ wq, Calls Try.prog 12 #[gv gr sz ni jr, .int .i64 a] wq fun e w' => e = .returned (.tuple #[.int .i64 x, .int .i64 i, .bool false]) ∧ Grow wq w')) (HHb : Hid (∀ wq, Calls Try.prog 12 #[gv gr sz ni jr, .int .i64 b] wq fun e w' => e = .returned (.tuple #[.int .i64 y, .int .i64 k, .bool false]) ∧ Grow wq w')) (A1 : decide (1 ≤ a) = true) (A2 : decide (a ≤ N) = false) (B1 : decide (1 ≤ b) = false) (w : World) :
    Calls Try.prog 8 #[gv gr sz ni jr, .int .i64 a, .int .i64 b] w fun e w' => e = .returned (.bool true) ∧ Below w.heap.size w w' := by
  go_enter Try.func8, Try.ntmps8
  go_wp2_with fail
  refine (awake_ok _).mono ?_
  rintro e w1 ⟨rfl, hg⟩
  have HG1 := Lib.hid hg
  clear hg
  obtain ⟨c0, c1, c2, c3⟩ := box_at HG1.out
  go_wp2_with fail
  refine (HHa.out _).mono ?_
  rintro e w2 ⟨rfl, hg⟩
  have HG2 := Lib.hid (HG1.out.trans hg)
  clear hg c0 c1 c2 c3
  obtain ⟨c0, c1, c2, c3⟩ := box_at HG2.out
  go_wp2_with fail
  refine (HHb.out _).mono ?_
  rintro e w3 ⟨rfl, hg⟩
  have HG3 := Lib.hid (HG2.out.trans hg)
  clear hg c0 c1 c2 c3
  obtain ⟨c0, c1, c2, c3⟩ := box_at HG3.out
  go_wp2_with fail
  refine (HIN.out _).mono ?_
  rintro e w4 ⟨rfl, hg⟩
  have HG4 := Lib.hid (HG3.out.trans hg)
  clear hg c0 c1 c2 c3
  obtain ⟨c0, c1, c2, c3⟩ := box_at HG4.out
  go_wp2_with fail
  go_ret
  exact ⟨rfl, (Grow.alloc _ _).trans HG4.out⟩
set_option maxRecDepth 100000 in
set_option maxHeartbeats 2000000 in
theorem nums_11 (gr sz ni jr a b N x i y k p m q n : Int) (HIN : Hid (∀ wq, Calls Try.prog 24 #[gv gr sz ni jr] wq fun e w' => e = .returned (.int .i64 N) ∧ Grow wq w')) (HHa : Hid (∀ wq, Calls Try.prog 12 #[gv gr sz ni jr, .int .i64 a] wq fun e w' => e = .returned (.tuple #[.int .i64 x, .int .i64 i, .bool false]) ∧ Grow wq w')) (HHb : Hid (∀ wq, Calls Try.prog 12 #[gv gr sz ni jr, .int .i64 b] wq fun e w' => e = .returned (.tuple #[.int .i64 y, .int .i64 k, .bool false]) ∧ Grow wq w')) (A1 : decide (1 ≤ a) = true) (A2 : decide (a ≤ N) = false) (B1 : decide (1 ≤ b) = true) (B2 : decide (b ≤ N) = false) (w : World) :
    Calls Try.prog 8 #[gv gr sz ni jr, .int .i64 a, .int .i64 b] w fun e w' => e = .returned (.bool true) ∧ Below w.heap.size w w' := by
  go_enter Try.func8, Try.ntmps8
  go_wp2_with fail
  refine (awake_ok _).mono ?_
  rintro e w1 ⟨rfl, hg⟩
  have HG1 := Lib.hid hg
  clear hg
  obtain ⟨c0, c1, c2, c3⟩ := box_at HG1.out
  go_wp2_with fail
  refine (HHa.out _).mono ?_
  rintro e w2 ⟨rfl, hg⟩
  have HG2 := Lib.hid (HG1.out.trans hg)
  clear hg c0 c1 c2 c3
  obtain ⟨c0, c1, c2, c3⟩ := box_at HG2.out
  go_wp2_with fail
  refine (HHb.out _).mono ?_
  rintro e w3 ⟨rfl, hg⟩
  have HG3 := Lib.hid (HG2.out.trans hg)
  clear hg c0 c1 c2 c3
  obtain ⟨c0, c1, c2, c3⟩ := box_at HG3.out
  go_wp2_with fail
  refine (HIN.out _).mono ?_
  rintro e w4 ⟨rfl, hg⟩
  have HG4 := Lib.hid (HG3.out.trans hg)
  clear hg c0 c1 c2 c3
  obtain ⟨c0, c1, c2, c3⟩ := box_at HG4.out
  go_wp2_with fail
  refine (HIN.out _).mono ?_
  rintro e w5 ⟨rfl, hg⟩
  have HG5 := Lib.hid (HG4.out.trans hg)
  clear hg c0 c1 c2 c3
  obtain ⟨c0, c1, c2, c3⟩ := box_at HG5.out
  go_wp2_with fail
  go_ret
  exact ⟨rfl, (Grow.alloc _ _).trans HG5.out⟩
set_option maxRecDepth 100000 in
set_option maxHeartbeats 2000000 in
theorem nums_12 (gr sz ni jr a b N x i y k p m q n : Int) (HIN : Hid (∀ wq, Calls Try.prog 24 #[gv gr sz ni jr] wq fun e w' => e = .returned (.int .i64 N) ∧ Grow wq w')) (HHa : Hid (∀ wq, Calls Try.prog 12 #[gv gr sz ni jr, .int .i64 a] wq fun e w' => e = .returned (.tuple #[.int .i64 x, .int .i64 i, .bool false]) ∧ Grow wq w')) (HHb : Hid (∀ wq, Calls Try.prog 12 #[gv gr sz ni jr, .int .i64 b] wq fun e w' => e = .returned (.tuple #[.int .i64 y, .int .i64 k, .bool true]) ∧ Grow wq w')) (A1 : decide (1 ≤ a) = true) (A2 : decide (a ≤ N) = false) (B1 : decide (1 ≤ b) = true) (B2 : decide (b ≤ N) = true) (w : World) :
    Calls Try.prog 8 #[gv gr sz ni jr, .int .i64 a, .int .i64 b] w fun e w' => e = .returned (.bool true) ∧ Below w.heap.size w w' := by
  go_enter Try.func8, Try.ntmps8
  go_wp2_with fail
  refine (awake_ok _).mono ?_
  rintro e w1 ⟨rfl, hg⟩
  have HG1 := Lib.hid hg
  clear hg
  obtain ⟨c0, c1, c2, c3⟩ := box_at HG1.out
  go_wp2_with fail
  refine (HHa.out _).mono ?_
  rintro e w2 ⟨rfl, hg⟩
  have HG2 := Lib.hid (HG1.out.trans hg)
  clear hg c0 c1 c2 c3
  obtain ⟨c0, c1, c2, c3⟩ := box_at HG2.out
  go_wp2_with fail
  refine (HHb.out _).mono ?_
  rintro e w3 ⟨rfl, hg⟩
  have HG3 := Lib.hid (HG2.out.trans hg)
  clear hg c0 c1 c2 c3
  obtain ⟨c0, c1, c2, c3⟩ := box_at HG3.out
  go_wp2_with fail
  refine (HIN.out _).mono ?_
  rintro e w4 ⟨rfl, hg⟩
  have HG4 := Lib.hid (HG3.out.trans hg)
  clear hg c0 c1 c2 c3
  obtain ⟨c0, c1, c2, c3⟩ := box_at HG4.out
  go_wp2_with fail
  refine (HIN.out _).mono ?_
  rintro e w5 ⟨rfl, hg⟩
  have HG5 := Lib.hid (HG4.out.trans hg)
  clear hg c0 c1 c2 c3
  obtain ⟨c0, c1, c2, c3⟩ := box_at HG5.out
  go_wp2_with fail
  go_ret
  exact ⟨rfl, (Grow.alloc _ _).trans HG5.out⟩
set_option maxRecDepth 100000 in
set_option maxHeartbeats 2000000 in
theorem nums_20 (gr sz ni jr a b N x i y k p m q n : Int) (HIN : Hid (∀ wq, Calls Try.prog 24 #[gv gr sz ni jr] wq fun e w' => e = .returned (.int .i64 N) ∧ Grow wq w')) (HHa : Hid (∀ wq, Calls Try.prog 12 #[gv gr sz ni jr, .int .i64 a] wq fun e w' => e = .returned (.tuple #[.int .i64 x, .int .i64 i, .bool true]) ∧ Grow wq w')) (HHb : Hid (∀ wq, Calls Try.prog 12 #[gv gr sz ni jr, .int .i64 b] wq fun e w' => e = .returned (.tuple #[.int .i64 y, .int .i64 k, .bool false]) ∧ Grow wq w')) (A1 : decide (1 ≤ a) = true) (A2 : decide (a ≤ N) = true) (B1 : decide (1 ≤ b) = false) (HNa : Hid (∀ wq, Calls Try.prog 15 #[gv gr sz ni jr, .int .i64 x, .int .i64 i] wq fun e w' => e = .returned (.int .i64 a) ∧ Grow wq w')) (w : World) :
    Calls Try.prog 8 #[gv gr sz ni jr, .int .i64 a, .int .i64 b] w fun e w' => e = .returned (.bool true) ∧ Below w.heap.size w w' := by
  go_enter Try.func8, Try.ntmps8
  go_wp2_with fail
  refine (awake_ok _).mono ?_
  rintro e w1 ⟨rfl, hg⟩
  have HG1 := Lib.hid hg
  clear hg
  obtain ⟨c0, c1, c2, c3⟩ := box_at HG1.out
  go_wp2_with fail
  refine (HHa.out _).mono ?_
  rintro e w2 ⟨rfl, hg⟩
  have HG2 := Lib.hid (HG1.out.trans hg)
  clear hg c0 c1 c2 c3
  obtain ⟨c0, c1, c2, c3⟩ := box_at HG2.out
  go_wp2_with fail
  refine (HHb.out _).mono ?_
  rintro e w3 ⟨rfl, hg⟩
  have HG3 := Lib.hid (HG2.out.trans hg)
  clear hg c0 c1 c2 c3
  obtain ⟨c0, c1, c2, c3⟩ := box_at HG3.out
  go_wp2_with fail
  refine (HIN.out _).mono ?_
  rintro e w4 ⟨rfl, hg⟩
  have HG4 := Lib.hid (HG3.out.trans hg)
  clear hg c0 c1 c2 c3
  obtain ⟨c0, c1, c2, c3⟩ := box_at HG4.out
  go_wp2_with fail
  refine (HNa.out _).mono ?_
  rintro e w5 ⟨rfl, hg⟩
  have HG5 := Lib.hid (HG4.out.trans hg)
  clear hg c0 c1 c2 c3
  obtain ⟨c0, c1, c2, c3⟩ := box_at HG5.out
  go_wp2_with fail
  go_ret
  exact ⟨rfl, (Grow.alloc _ _).trans HG5.out⟩
set_option maxRecDepth 100000 in
set_option maxHeartbeats 2000000 in
theorem nums_21 (gr sz ni jr a b N x i y k p m q n : Int) (HIN : Hid (∀ wq, Calls Try.prog 24 #[gv gr sz ni jr] wq fun e w' => e = .returned (.int .i64 N) ∧ Grow wq w')) (HHa : Hid (∀ wq, Calls Try.prog 12 #[gv gr sz ni jr, .int .i64 a] wq fun e w' => e = .returned (.tuple #[.int .i64 x, .int .i64 i, .bool true]) ∧ Grow wq w')) (HHb : Hid (∀ wq, Calls Try.prog 12 #[gv gr sz ni jr, .int .i64 b] wq fun e w' => e = .returned (.tuple #[.int .i64 y, .int .i64 k, .bool false]) ∧ Grow wq w')) (A1 : decide (1 ≤ a) = true) (A2 : decide (a ≤ N) = true) (B1 : decide (1 ≤ b) = true) (B2 : decide (b ≤ N) = false) (HNa : Hid (∀ wq, Calls Try.prog 15 #[gv gr sz ni jr, .int .i64 x, .int .i64 i] wq fun e w' => e = .returned (.int .i64 a) ∧ Grow wq w')) (w : World) :
    Calls Try.prog 8 #[gv gr sz ni jr, .int .i64 a, .int .i64 b] w fun e w' => e = .returned (.bool true) ∧ Below w.heap.size w w' := by
  go_enter Try.func8, Try.ntmps8
  go_wp2_with fail
  refine (awake_ok _).mono ?_
  rintro e w1 ⟨rfl, hg⟩
  have HG1 := Lib.hid hg
  clear hg
  obtain ⟨c0, c1, c2, c3⟩ := box_at HG1.out
  go_wp2_with fail
  refine (HHa.out _).mono ?_
  rintro e w2 ⟨rfl, hg⟩
  have HG2 := Lib.hid (HG1.out.trans hg)
  clear hg c0 c1 c2 c3
  obtain ⟨c0, c1, c2, c3⟩ := box_at HG2.out
  go_wp2_with fail
  refine (HHb.out _).mono ?_
  rintro e w3 ⟨rfl, hg⟩
  have HG3 := Lib.hid (HG2.out.trans hg)
  clear hg c0 c1 c2 c3
  obtain ⟨c0, c1, c2, c3⟩ := box_at HG3.out
  go_wp2_with fail
  refine (HIN.out _).mono ?_
  rintro e w4 ⟨rfl, hg⟩
  have HG4 := Lib.hid (HG3.out.trans hg)
  clear hg c0 c1 c2 c3
  obtain ⟨c0, c1, c2, c3⟩ := box_at HG4.out
  go_wp2_with fail
  refine (HIN.out _).mono ?_
  rintro e w5 ⟨rfl, hg⟩
  have HG5 := Lib.hid (HG4.out.trans hg)
  clear hg c0 c1 c2 c3
  obtain ⟨c0, c1, c2, c3⟩ := box_at HG5.out
  go_wp2_with fail
  refine (HNa.out _).mono ?_
  rintro e w6 ⟨rfl, hg⟩
  have HG6 := Lib.hid (HG5.out.trans hg)
  clear hg c0 c1 c2 c3
  obtain ⟨c0, c1, c2, c3⟩ := box_at HG6.out
  go_wp2_with fail
  go_ret
  exact ⟨rfl, (Grow.alloc _ _).trans HG6.out⟩
set_option maxRecDepth 100000 in
set_option maxHeartbeats 2000000 in
theorem nums_22e (gr sz ni jr a b N x i y k p m q n : Int) (HIN : Hid (∀ wq, Calls Try.prog 24 #[gv gr sz ni jr] wq fun e w' => e = .returned (.int .i64 N) ∧ Grow wq w')) (HHa : Hid (∀ wq, Calls Try.prog 12 #[gv gr sz ni jr, .int .i64 a] wq fun e w' => e = .returned (.tuple #[.int .i64 x, .int .i64 i, .bool true]) ∧ Grow wq w')) (HHb : Hid (∀ wq, Calls Try.prog 12 #[gv gr sz ni jr, .int .i64 b] wq fun e w' => e = .returned (.tuple #[.int .i64 y, .int .i64 k, .bool true]) ∧ Grow wq w')) (A1 : decide (1 ≤ a) = true) (A2 : decide (a ≤ N) = true) (B1 : decide (1 ≤ b) = true) (B2 : decide (b ≤ N) = true) (HNa : Hid (∀ wq, Calls Try.prog 15 #[gv gr sz ni jr, .int .i64 x, .int .i64 i] wq fun e w' => e = .returned (.int .i64 a) ∧ Grow wq w')) (HIa : Hid (∀ wq, Calls Try.prog 10 #[gv gr sz ni jr, .int .i64 a] wq fun e w' => e = .returned (.tuple #[.int .i64 p, .int .i64 m, .bool true]) ∧ Grow wq w')) (HIb : Hid (∀ wq, Calls Try.prog 10 #[gv gr sz ni jr, .int .i64 b] wq fun e w' => e = .returned (.tuple #[.int .i64 q, .int .i64 n, .bool true]) ∧ Grow wq w')) (T1 : (x == y) = true) (T2 : (i == k) = true) (T3 : (p == q) = true) (T4 : (m == n) = true) (T5 : (a == b) = true) (w : World) :
    Calls Try.prog 8 #[gv gr sz ni jr, .int .i64 a, .int .i64 b] w fun e w' => e = .returned (.bool true) ∧ Below w.heap.size w w' := by
  go_enter Try.func8, Try.ntmps8
  go_wp2_with fail
  refine (awake_ok _).mono ?_
  rintro e w1 ⟨rfl, hg⟩
  have HG1 := Lib.hid hg
  clear hg
  obtain ⟨c0, c1, c2, c3⟩ := box_at HG1.out
  go_wp2_with fail
  refine (HHa.out _).mono ?_
  rintro e w2 ⟨rfl, hg⟩
  have HG2 := Lib.hid (HG1.out.trans hg)
  clear hg c0 c1 c2 c3
  obtain ⟨c0, c1, c2, c3⟩ := box_at HG2.out
  go_wp2_with fail
  refine (HHb.out _).mono ?_
  rintro e w3 ⟨rfl, hg⟩
  have HG3 := Lib.hid (HG2.out.trans hg)
  clear hg c0 c1 c2 c3
  obtain ⟨c0, c1, c2, c3⟩ := box_at HG3.out
  go_wp2_with fail
  refine (HIN.out _).mono ?_
  rintro e w4 ⟨rfl, hg⟩
  have HG4 := Lib.hid (HG3.out.trans hg)
  clear hg c0 c1 c2 c3
  obtain ⟨c0, c1, c2, c3⟩ := box_at HG4.out
  go_wp2_with fail
  refine (HIN.out _).mono ?_
  rintro e w5 ⟨rfl, hg⟩
  have HG5 := Lib.hid (HG4.out.trans hg)
  clear hg c0 c1 c2 c3
  obtain ⟨c0, c1, c2, c3⟩ := box_at HG5.out
  go_wp2_with fail
  refine (HNa.out _).mono ?_
  rintro e w6 ⟨rfl, hg⟩
  have HG6 := Lib.hid (HG5.out.trans hg)
  clear hg c0 c1 c2 c3
  obtain ⟨c0, c1, c2, c3⟩ := box_at HG6.out
  go_wp2_with fail
  refine (HIa.out _).mono ?_
  rintro e w7 ⟨rfl, hg⟩
  have HG7 := Lib.hid (HG6.out.trans hg)
  clear hg c0 c1 c2 c3
  obtain ⟨c0, c1, c2, c3⟩ := box_at HG7.out
  go_wp2_with fail
  refine (HIb.out _).mono ?_
  rintro e w8 ⟨rfl, hg⟩
  have HG8 := Lib.hid (HG7.out.trans hg)
  clear hg c0 c1 c2 c3
  obtain ⟨c0, c1, c2, c3⟩ := box_at HG8.out
  go_wp2_with fail
  go_ret
  exact ⟨rfl, (Grow.alloc _ _).trans HG8.out⟩
set_option maxRecDepth 100000 in
set_option maxHeartbeats 2000000 in
theorem nums_22a (gr sz ni jr a b N x i y k p m q n : Int) (HIN : Hid (∀ wq, Calls Try.prog 24 #[gv gr sz ni jr] wq fun e w' => e = .returned (.int .i64 N) ∧ Grow wq w')) (HHa : Hid (∀ wq, Calls Try.prog 12 #[gv gr sz ni jr, .int .i64 a] wq fun e w' => e = .returned (.tuple #[.int .i64 x, .int .i64 i, .bool true]) ∧ Grow wq w')) (HHb : Hid (∀ wq, Calls Try.prog 12 #[gv gr sz ni jr, .int .i64 b] wq fun e w' => e = .returned (.tuple #[.int .i64 y, .int .i64 k, .bool true]) ∧ Grow wq w')) (A1 : decide (1 ≤ a) = true) (A2 : decide (a ≤ N) = true) (B1 : decide (1 ≤ b) = true) (B2 : decide (b ≤ N) = true) (HNa : Hid (∀ wq, Calls Try.prog 15 #[gv gr sz ni jr, .int .i64 x, .int .i64 i] wq fun e w' => e = .returned (.int .i64 a) ∧ Grow wq w')) (HIa : Hid (∀ wq, Calls Try.prog 10 #[gv gr sz ni jr, .int .i64 a] wq fun e w' => e = .returned (.tuple #[.int .i64 p, .int .i64 m, .bool true]) ∧ Grow wq w')) (HIb : Hid (∀ wq, Calls Try.prog 10 #[gv gr sz ni jr, .int .i64 b] wq fun e w' => e = .returned (.tuple #[.int .i64 q, .int .i64 n, .bool true]) ∧ Grow wq w')) (T1 : (x == y) = true) (T2 : (i == k) = false) (T3 : (p == q) = true) (T4 : (m == n) = false) (T5 : (a == b) = false) (w : World) :
    Calls Try.prog 8 #[gv gr sz ni jr, .int .i64 a, .int .i64 b] w fun e w' => e = .returned (.bool true) ∧ Below w.heap.size w w' := by
  go_enter Try.func8, Try.ntmps8
  go_wp2_with fail
  refine (awake_ok _).mono ?_
  rintro e w1 ⟨rfl, hg⟩
  have HG1 := Lib.hid hg
  clear hg
  obtain ⟨c0, c1, c2, c3⟩ := box_at HG1.out
  go_wp2_with fail
  refine (HHa.out _).mono ?_
  rintro e w2 ⟨rfl, hg⟩
  have HG2 := Lib.hid (HG1.out.trans hg)
  clear hg c0 c1 c2 c3
  obtain ⟨c0, c1, c2, c3⟩ := box_at HG2.out
  go_wp2_with fail
  refine (HHb.out _).mono ?_
  rintro e w3 ⟨rfl, hg⟩
  have HG3 := Lib.hid (HG2.out.trans hg)
  clear hg c0 c1 c2 c3
  obtain ⟨c0, c1, c2, c3⟩ := box_at HG3.out
  go_wp2_with fail
  refine (HIN.out _).mono ?_
  rintro e w4 ⟨rfl, hg⟩
  have HG4 := Lib.hid (HG3.out.trans hg)
  clear hg c0 c1 c2 c3
  obtain ⟨c0, c1, c2, c3⟩ := box_at HG4.out
  go_wp2_with fail
  refine (HIN.out _).mono ?_
  rintro e w5 ⟨rfl, hg⟩
  have HG5 := Lib.hid (HG4.out.trans hg)
  clear hg c0 c1 c2 c3
  obtain ⟨c0, c1, c2, c3⟩ := box_at HG5.out
  go_wp2_with fail
  refine (HNa.out _).mono ?_
  rintro e w6 ⟨rfl, hg⟩
  have HG6 := Lib.hid (HG5.out.trans hg)
  clear hg c0 c1 c2 c3
  obtain ⟨c0, c1, c2, c3⟩ := box_at HG6.out
  go_wp2_with fail
  refine (HIa.out _).mono ?_
  rintro e w7 ⟨rfl, hg⟩
  have HG7 := Lib.hid (HG6.out.trans hg)
  clear hg c0 c1 c2 c3
  obtain ⟨c0, c1, c2, c3⟩ := box_at HG7.out
  go_wp2_with fail
  refine (HIb.out _).mono ?_
  rintro e w8 ⟨rfl, hg⟩
  have HG8 := Lib.hid (HG7.out.trans hg)
  clear hg c0 c1 c2 c3
  obtain ⟨c0, c1, c2, c3⟩ := box_at HG8.out
  go_wp2_with fail
  go_ret
  exact ⟨rfl, (Grow.alloc _ _).trans HG8.out⟩
set_option maxRecDepth 100000 in
set_option maxHeartbeats 2000000 in
theorem nums_22b (gr sz ni jr a b N x i y k p m q n : Int) (HIN : Hid (∀ wq, Calls Try.prog 24 #[gv gr sz ni jr] wq fun e w' => e = .returned (.int .i64 N) ∧ Grow wq w')) (HHa : Hid (∀ wq, Calls Try.prog 12 #[gv gr sz ni jr, .int .i64 a] wq fun e w' => e = .returned (.tuple #[.int .i64 x, .int .i64 i, .bool true]) ∧ Grow wq w')) (HHb : Hid (∀ wq, Calls Try.prog 12 #[gv gr sz ni jr, .int .i64 b] wq fun e w' => e = .returned (.tuple #[.int .i64 y, .int .i64 k, .bool true]) ∧ Grow wq w')) (A1 : decide (1 ≤ a) = true) (A2 : decide (a ≤ N) = true) (B1 : decide (1 ≤ b) = true) (B2 : decide (b ≤ N) = true) (HNa : Hid (∀ wq, Calls Try.prog 15 #[gv gr sz ni jr, .int .i64 x, .int .i64 i] wq fun e w' => e = .returned (.int .i64 a) ∧ Grow wq w')) (HIa : Hid (∀ wq, Calls Try.prog 10 #[gv gr sz ni jr, .int .i64 a] wq fun e w' => e = .returned (.tuple #[.int .i64 p, .int .i64 m, .bool true]) ∧ Grow wq w')) (HIb : Hid (∀ wq, Calls Try.prog 10 #[gv gr sz ni jr, .int .i64 b] wq fun e w' => e = .returned (.tuple #[.int .i64 q, .int .i64 n, .bool true]) ∧ Grow wq w')) (T1 : (x == y) = true) (T2 : (i == k) = false) (T3 : (p == q) = false) (T5 : (a == b) = false) (w : World) :
    Calls Try.prog 8 #[gv gr sz ni jr, .int .i64 a, .int .i64 b] w fun e w' => e = .returned (.bool true) ∧ Below w.heap.size w w' := by
  go_enter Try.func8, Try.ntmps8
  go_wp2_with fail
  refine (awake_ok _).mono ?_
  rintro e w1 ⟨rfl, hg⟩
  have HG1 := Lib.hid hg
  clear hg
  obtain ⟨c0, c1, c2, c3⟩ := box_at HG1.out
  go_wp2_with fail
  refine (HHa.out _).mono ?_
  rintro e w2 ⟨rfl, hg⟩
  have HG2 := Lib.hid (HG1.out.trans hg)
  clear hg c0 c1 c2 c3
  obtain ⟨c0, c1, c2, c3⟩ := box_at HG2.out
  go_wp2_with fail
  refine (HHb.out _).mono ?_
  rintro e w3 ⟨rfl, hg⟩
  have HG3 := Lib.hid (HG2.out.trans hg)
  clear hg c0 c1 c2 c3
  obtain ⟨c0, c1, c2, c3⟩ := box_at HG3.out
  go_wp2_with fail
  refine (HIN.out _).mono ?_
  rintro e w4 ⟨rfl, hg⟩
  have HG4 := Lib.hid (HG3.out.trans hg)
  clear hg c0 c1 c2 c3
  obtain ⟨c0, c1, c2, c3⟩ := box_at HG4.out
  go_wp2_with fail
  refine (HIN.out _).mono ?_
  rintro e w5 ⟨rfl, hg⟩
  have HG5 := Lib.hid (HG4.out.trans hg)
  clear hg c0 c1 c2 c3
  obtain ⟨c0, c1, c2, c3⟩ := box_at HG5.out
  go_wp2_with fail
  refine (HNa.out _).mono ?_
  rintro e w6 ⟨rfl, hg⟩
  have HG6 := Lib.hid (HG5.out.trans hg)
  clear hg c0 c1 c2 c3
  obtain ⟨c0, c1, c2, c3⟩ := box_at HG6.out
  go_wp2_with fail
  refine (HIa.out _).mono ?_
  rintro e w7 ⟨rfl, hg⟩
  have HG7 := Lib.hid (HG6.out.trans hg)
  clear hg c0 c1 c2 c3
  obtain ⟨c0, c1, c2, c3⟩ := box_at HG7.out
  go_wp2_with fail
  refine (HIb.out _).mono ?_
  rintro e w8 ⟨rfl, hg⟩
  have HG8 := Lib.hid (HG7.out.trans hg)
  clear hg c0 c1 c2 c3
  obtain ⟨c0, c1, c2, c3⟩ := box_at HG8.out
  go_wp2_with fail
  go_ret
  exact ⟨rfl, (Grow.alloc _ _).trans HG8.out⟩
set_option maxRecDepth 100000 in
set_option maxHeartbeats 2000000 in
theorem nums_22c (gr sz ni jr a b N x i y k p m q n : Int) (HIN : Hid (∀ wq, Calls Try.prog 24 #[gv gr sz ni jr] wq fun e w' => e = .returned (.int .i64 N) ∧ Grow wq w')) (HHa : Hid (∀ wq, Calls Try.prog 12 #[gv gr sz ni jr, .int .i64 a] wq fun e w' => e = .returned (.tuple #[.int .i64 x, .int .i64 i, .bool true]) ∧ Grow wq w')) (HHb : Hid (∀ wq, Calls Try.prog 12 #[gv gr sz ni jr, .int .i64 b] wq fun e w' => e = .returned (.tuple #[.int .i64 y, .int .i64 k, .bool true]) ∧ Grow wq w')) (A1 : decide (1 ≤ a) = true) (A2 : decide (a ≤ N) = true) (B1 : decide (1 ≤ b) = true) (B2 : decide (b ≤ N) = true) (HNa : Hid (∀ wq, Calls Try.prog 15 #[gv gr sz ni jr, .int .i64 x, .int .i64 i] wq fun e w' => e = .returned (.int .i64 a) ∧ Grow wq w')) (HIa : Hid (∀ wq, Calls Try.prog 10 #[gv gr sz ni jr, .int .i64 a] wq fun e w' => e = .returned (.tuple #[.int .i64 p, .int .i64 m, .bool true]) ∧ Grow wq w')) (HIb : Hid (∀ wq, Calls Try.prog 10 #[gv gr sz ni jr, .int .i64 b] wq fun e w' => e = .returned (.tuple #[.int .i64 q, .int .i64 n, .bool true]) ∧ Grow wq w')) (T1 : (x == y) = false) (T3 : (p == q) = true) (T4 : (m == n) = false) (T5 : (a == b) = false) (w : World) :
    Calls Try.prog 8 #[gv gr sz ni jr, .int .i64 a, .int .i64 b] w fun e w' => e = .returned (.bool true) ∧ Below w.heap.size w w' := by
  go_enter Try.func8, Try.ntmps8
  go_wp2_with fail
  refine (awake_ok _).mono ?_
  rintro e w1 ⟨rfl, hg⟩
  have HG1 := Lib.hid hg
  clear hg
  obtain ⟨c0, c1, c2, c3⟩ := box_at HG1.out
  go_wp2_with fail
  refine (HHa.out _).mono ?_
  rintro e w2 ⟨rfl, hg⟩
  have HG2 := Lib.hid (HG1.out.trans hg)
  clear hg c0 c1 c2 c3
  obtain ⟨c0, c1, c2, c3⟩ := box_at HG2.out
  go_wp2_with fail
  refine (HHb.out _).mono ?_
  rintro e w3 ⟨rfl, hg⟩
  have HG3 := Lib.hid (HG2.out.trans hg)
  clear hg c0 c1 c2 c3
  obtain ⟨c0, c1, c2, c3⟩ := box_at HG3.out
  go_wp2_with fail
  refine (HIN.out _).mono ?_
  rintro e w4 ⟨rfl, hg⟩
  have HG4 := Lib.hid (HG3.out.trans hg)
  clear hg c0 c1 c2 c3
  obtain ⟨c0, c1, c2, c3⟩ := box_at HG4.out
  go_wp2_with fail
  refine (HIN.out _).mono ?_
  rintro e w5 ⟨rfl, hg⟩
  have HG5 := Lib.hid (HG4.out.trans hg)
  clear hg c0 c1 c2 c3
  obtain ⟨c0, c1, c2, c3⟩ := box_at HG5.out
  go_wp2_with fail
  refine (HNa.out _).mono ?_
  rintro e w6 ⟨rfl, hg⟩
  have HG6 := Lib.hid (HG5.out.trans hg)
  clear hg c0 c1 c2 c3
  obtain ⟨c0, c1, c2, c3⟩ := box_at HG6.out
  go_wp2_with fail
  refine (HIa.out _).mono ?_
  rintro e w7 ⟨rfl, hg⟩
  have HG7 := Lib.hid (HG6.out.trans hg)
  clear hg c0 c1 c2 c3
  obtain ⟨c0, c1, c2, c3⟩ := box_at HG7.out
  go_wp2_with fail
  refine (HIb.out _).mono ?_
  rintro e w8 ⟨rfl, hg⟩
  have HG8 := Lib.hid (HG7.out.trans hg)
  clear hg c0 c1 c2 c3
  obtain ⟨c0, c1, c2, c3⟩ := box_at HG8.out
  go_wp2_with fail
  go_ret
  exact ⟨rfl, (Grow.alloc _ _).trans HG8.out⟩
set_option maxRecDepth 100000 in
set_option maxHeartbeats 2000000 in
theorem nums_22d (gr sz ni jr a b N x i y k p m q n : Int) (HIN : Hid (∀ wq, Calls Try.prog 24 #[gv gr sz ni jr] wq fun e w' => e = .returned (.int .i64 N) ∧ Grow wq w')) (HHa : Hid (∀ wq, Calls Try.prog 12 #[gv gr sz ni jr, .int .i64 a] wq fun e w' => e = .returned (.tuple #[.int .i64 x, .int .i64 i, .bool true]) ∧ Grow wq w')) (HHb : Hid (∀ wq, Calls Try.prog 12 #[gv gr sz ni jr, .int .i64 b] wq fun e w' => e = .returned (.tuple #[.int .i64 y, .int .i64 k, .bool true]) ∧ Grow wq w')) (A1 : decide (1 ≤ a) = true) (A2 : decide (a ≤ N) = true) (B1 : decide (1 ≤ b) = true) (B2 : decide (b ≤ N) = true) (HNa : Hid (∀ wq, Calls Try.prog 15 #[gv gr sz ni jr, .int .i64 x, .int .i64 i] wq fun e w' => e = .returned (.int .i64 a) ∧ Grow wq w')) (HIa : Hid (∀ wq, Calls Try.prog 10 #[gv gr sz ni jr, .int .i64 a] wq fun e w' => e = .returned (.tuple #[.int .i64 p, .int .i64 m, .bool true]) ∧ Grow wq w')) (HIb : Hid (∀ wq, Calls Try.prog 10 #[gv gr sz ni jr, .int .i64 b] wq fun e w' => e = .returned (.tuple #[.int .i64 q, .int .i64 n, .bool true]) ∧ Grow wq w')) (T1 : (x == y) = false) (T3 : (p == q) = false) (T5 : (a == b) = false) (w : World) :
    Calls Try.prog 8 #[gv gr sz ni jr, .int .i64 a, .int .i64 b] w fun e w' => e = .returned (.bool true) ∧ Below w.heap.size w w' := by
  go_enter Try.func8, Try.ntmps8
  go_wp2_with fail
  refine (awake_ok _).mono ?_
  rintro e w1 ⟨rfl, hg⟩
  have HG1 := Lib.hid hg
  clear hg
  obtain ⟨c0, c1, c2, c3⟩ := box_at HG1.out
  go_wp2_with fail
  refine (HHa.out _).mono ?_
  rintro e w2 ⟨rfl, hg⟩
  have HG2 := Lib.hid (HG1.out.trans hg)
  clear hg c0 c1 c2 c3
  obtain ⟨c0, c1, c2, c3⟩ := box_at HG2.out
  go_wp2_with fail
  refine (HHb.out _).mono ?_
  rintro e w3 ⟨rfl, hg⟩
  have HG3 := Lib.hid (HG2.out.trans hg)
  clear hg c0 c1 c2 c3
  obtain ⟨c0, c1, c2, c3⟩ := box_at HG3.out
  go_wp2_with fail
  refine (HIN.out _).mono ?_
  rintro e w4 ⟨rfl, hg⟩
  have HG4 := Lib.hid (HG3.out.trans hg)
  clear hg c0 c1 c2 c3
  obtain ⟨c0, c1, c2, c3⟩ := box_at HG4.out
  go_wp2_with fail
  refine (HIN.out _).mono ?_
  rintro e w5 ⟨rfl, hg⟩
  have HG5 := Lib.hid (HG4.out.trans hg)
  clear hg c0 c1 c2 c3
  obtain ⟨c0, c1, c2, c3⟩ := box_at HG5.out
  go_wp2_with fail
  refine (HNa.out _).mono ?_
  rintro e w6 ⟨rfl, hg⟩
  have HG6 := Lib.hid (HG5.out.trans hg)
  clear hg c0 c1 c2 c3
  obtain ⟨c0, c1, c2, c3⟩ := box_at HG6.out
  go_wp2_with fail
  refine (HIa.out _).mono ?_
  rintro e w7 ⟨rfl, hg⟩
  have HG7 := Lib.hid (HG6.out.trans hg)
  clear hg c0 c1 c2 c3
  obtain ⟨c0, c1, c2, c3⟩ := box_at HG7.out
  go_wp2_with fail
  refine (HIb.out _).mono ?_
  rintro e w8 ⟨rfl, hg⟩
  have HG8 := Lib.hid (HG7.out.trans hg)
  clear hg c0 c1 c2 c3
  obtain ⟨c0, c1, c2, c3⟩ := box_at HG8.out
  go_wp2_with fail
  go_ret
  exact ⟨rfl, (Grow.alloc _ _).trans HG8.out⟩

theorem same_place {ni sz x i y k : Int} (h4 : ni % 4 = 0) (hs : 3 + ni / 4 ≤ sz) (hi0 : 0 ≤ i) (hi : i < ni) (hk0 : 0 ≤ k) (hk : k < ni) (hx : 0 ≤ x) (hy : 0 ≤ y) (hp : x * sz + (2 + i / 4) = y * sz + (2 + k / 4)) (hm : i % 4 = k % 4) : x = y ∧ i = k := by
  have e1 := home_at (x * sz + (2 + i / 4) + 1) sz x (2 + i / 4) (by omega) rfl (by omega) (by omega)
  have e2 := home_at (x * sz + (2 + i / 4) + 1) sz y (2 + k / 4) (by omega) (by rw [hp]) (by omega) (by omega)
  have h1 : x = y := e1.1.symm.trans e2.1
  have h2 := e1.2.symm.trans e2.2
  exact ⟨h1, by omega⟩
theorem numbers_walk (gr sz ni jr a b : Int) (w : World) :
    Calls Try.prog 8 #[gv gr sz ni jr, .int .i64 a, .int .i64 b] w fun e w' => e = .returned (.bool true) ∧ Below w.heap.size w w' := by
  have HIN := Lib.hid (inodes_any gr sz ni jr)
  have hno : ∀ c, ¬ (1 ≤ c ∧ c ≤ nInodes gr sz ni jr) → Hid (∀ wq, Calls Try.prog 12 #[gv gr sz ni jr, .int .i64 c] wq fun e w' => e = .returned (.tuple #[.int .i64 0, .int .i64 0, .bool false]) ∧ Grow wq w') := fun c h => Lib.hid fun wq => by
    have := home_any gr sz ni jr c wq; unfold homeOf at this; rwa [if_neg h] at this
  have hyes : ∀ c, (1 ≤ c ∧ c ≤ nInodes gr sz ni jr) → Hid (∀ wq, Calls Try.prog 12 #[gv gr sz ni jr, .int .i64 c] wq fun e w' => e = .returned (.tuple #[.int .i64 ((c - 1) / ni), .int .i64 ((c - 1) % ni), .bool true]) ∧ Grow wq w') := fun c h => Lib.hid fun wq => by
    have := home_any gr sz ni jr c wq; unfold homeOf at this; rwa [if_pos h] at this
  have hino : ∀ c, (1 ≤ c ∧ c ≤ nInodes gr sz ni jr) → Hid (∀ wq, Calls Try.prog 10 #[gv gr sz ni jr, .int .i64 c] wq fun e w' => e = .returned (.tuple #[.int .i64 (2 + jr + (c - 1) / ni * sz + 2 + (c - 1) % ni / 4), .int .i64 ((c - 1) % ni % 4 * 64), .bool true]) ∧ Grow wq w') := fun c h => Lib.hid fun wq => by
    have := inode_any gr sz ni jr c wq; unfold inodeOf at this; rwa [if_pos h] at this
  have hmay : ∀ c, (1 ≤ c ∧ c ≤ nInodes gr sz ni jr) → May gr sz ni jr ∧ c ≤ gr * ni := fun c h => by
    have h2 := h.2
    unfold nInodes at h2
    by_cases hM : May gr sz ni jr
    · rw [if_pos hM] at h2; exact ⟨hM, h2⟩
    · rw [if_neg hM] at h2; omega
  have hpl : ∀ c, (1 ≤ c ∧ c ≤ nInodes gr sz ni jr) → 0 ≤ (c - 1) / ni ∧ (c - 1) / ni < gr ∧ 0 ≤ (c - 1) % ni ∧ (c - 1) % ni < ni ∧ (c - 1) / ni * ni + (c - 1) % ni + 1 = c := fun c h => by
    obtain ⟨hM, hc⟩ := hmay c h
    obtain ⟨h1, h2, h3, h4, h5, h6, _⟩ := hM
    refine ⟨Int.ediv_nonneg (by omega) (by omega), Int.ediv_lt_of_lt_mul (by omega) (by omega), Int.emod_nonneg _ (by omega), Int.emod_lt_of_pos _ (by omega), ?_⟩
    have := Int.mul_ediv_add_emod (c - 1) ni
    rw [Int.mul_comm] at this
    omega
  have hnum : ∀ c, (1 ≤ c ∧ c ≤ nInodes gr sz ni jr) → Hid (∀ wq, Calls Try.prog 15 #[gv gr sz ni jr, .int .i64 ((c - 1) / ni), .int .i64 ((c - 1) % ni)] wq fun e w' => e = .returned (.int .i64 c) ∧ Grow wq w') := fun c h => Lib.hid fun wq => by
    obtain ⟨q1, q2, q3, q4, q5⟩ := hpl c h
    have := number_yes gr sz ni jr ((c - 1) / ni) ((c - 1) % ni) (hmay c h).1 q1 q2 q3 q4 wq
    rwa [q5] at this
  have tr : ∀ c d : Int, c ≤ d → decide (c ≤ d) = true := fun c d h => by simpa using h
  have fa : ∀ c d : Int, ¬ c ≤ d → decide (c ≤ d) = false := fun c d h => by simpa using h
  by_cases a1 : 1 ≤ a
  · by_cases a2 : a ≤ nInodes gr sz ni jr
    · by_cases b1 : 1 ≤ b
      · by_cases b2 : b ≤ nInodes gr sz ni jr
        · obtain ⟨u1, u2, u3, u4, u5⟩ := hpl a ⟨a1, a2⟩
          obtain ⟨v1, v2, v3, v4, v5⟩ := hpl b ⟨b1, b2⟩
          obtain ⟨⟨_, _, _, _, _, _, m7, _, _, m10, _⟩, _⟩ := hmay a ⟨a1, a2⟩
          have key : ¬ a = b → ¬ ((a - 1) / ni = (b - 1) / ni ∧ (a - 1) % ni = (b - 1) % ni) := fun hn h => hn (by rw [← u5, ← v5, h.1, h.2])
          have key2 : (2 + jr + (a - 1) / ni * sz + 2 + (a - 1) % ni / 4 = 2 + jr + (b - 1) / ni * sz + 2 + (b - 1) % ni / 4) → (a - 1) % ni % 4 * 64 = (b - 1) % ni % 4 * 64 → (a - 1) / ni = (b - 1) / ni ∧ (a - 1) % ni = (b - 1) % ni := fun hp hm =>
            same_place m7 m10 u3 u4 v3 v4 u1 v1 (by omega) (by omega)
          by_cases e : a = b
          · subst e
            exact nums_22e gr sz ni jr a a _ _ _ _ _ _ _ _ _ HIN (hyes a ⟨a1, a2⟩) (hyes a ⟨a1, a2⟩) (tr _ _ a1) (tr _ _ a2) (tr _ _ a1) (tr _ _ a2) (hnum a ⟨a1, a2⟩) (hino a ⟨a1, a2⟩) (hino a ⟨a1, a2⟩) (by simp) (by simp) (by simp) (by simp) (by simp) w
          · have e5 : (a == b) = false := by simpa using e
            by_cases ex : (a - 1) / ni = (b - 1) / ni
            · have ei : ((a - 1) % ni == (b - 1) % ni) = false := by simpa using fun h => key e ⟨ex, h⟩
              by_cases ep : 2 + jr + (a - 1) / ni * sz + 2 + (a - 1) % ni / 4 = 2 + jr + (b - 1) / ni * sz + 2 + (b - 1) % ni / 4
              · exact nums_22a gr sz ni jr a b _ _ _ _ _ _ _ _ _ HIN (hyes a ⟨a1, a2⟩) (hyes b ⟨b1, b2⟩) (tr _ _ a1) (tr _ _ a2) (tr _ _ b1) (tr _ _ b2) (hnum a ⟨a1, a2⟩) (hino a ⟨a1, a2⟩) (hino b ⟨b1, b2⟩) (by simpa using ex) ei (beq_iff_eq.2 ep) (beq_eq_false_iff_ne.2 fun h => key e (key2 ep h)) e5 w
              · exact nums_22b gr sz ni jr a b _ _ _ _ _ _ _ _ _ HIN (hyes a ⟨a1, a2⟩) (hyes b ⟨b1, b2⟩) (tr _ _ a1) (tr _ _ a2) (tr _ _ b1) (tr _ _ b2) (hnum a ⟨a1, a2⟩) (hino a ⟨a1, a2⟩) (hino b ⟨b1, b2⟩) (by simpa using ex) ei (beq_eq_false_iff_ne.2 ep) e5 w
            · have exf : ((a - 1) / ni == (b - 1) / ni) = false := by simpa using ex
              by_cases ep : 2 + jr + (a - 1) / ni * sz + 2 + (a - 1) % ni / 4 = 2 + jr + (b - 1) / ni * sz + 2 + (b - 1) % ni / 4
              · exact nums_22c gr sz ni jr a b _ _ _ _ _ _ _ _ _ HIN (hyes a ⟨a1, a2⟩) (hyes b ⟨b1, b2⟩) (tr _ _ a1) (tr _ _ a2) (tr _ _ b1) (tr _ _ b2) (hnum a ⟨a1, a2⟩) (hino a ⟨a1, a2⟩) (hino b ⟨b1, b2⟩) exf (beq_iff_eq.2 ep) (beq_eq_false_iff_ne.2 fun h => key e (key2 ep h)) e5 w
              · exact nums_22d gr sz ni jr a b _ _ _ _ _ _ _ _ _ HIN (hyes a ⟨a1, a2⟩) (hyes b ⟨b1, b2⟩) (tr _ _ a1) (tr _ _ a2) (tr _ _ b1) (tr _ _ b2) (hnum a ⟨a1, a2⟩) (hino a ⟨a1, a2⟩) (hino b ⟨b1, b2⟩) exf (beq_eq_false_iff_ne.2 ep) e5 w
        · exact nums_21 gr sz ni jr a b _ _ _ _ _ 0 0 0 0 HIN (hyes a ⟨a1, a2⟩) (hno b (fun h => b2 h.2)) (tr _ _ a1) (tr _ _ a2) (tr _ _ b1) (fa _ _ b2) (hnum a ⟨a1, a2⟩) w
      · exact nums_20 gr sz ni jr a b _ _ _ _ _ 0 0 0 0 HIN (hyes a ⟨a1, a2⟩) (hno b (fun h => b1 h.1)) (tr _ _ a1) (tr _ _ a2) (fa _ _ b1) (hnum a ⟨a1, a2⟩) w
    · by_cases b1 : 1 ≤ b
      · by_cases b2 : b ≤ nInodes gr sz ni jr
        · exact nums_12 gr sz ni jr a b _ _ _ _ _ 0 0 0 0 HIN (hno a (fun h => a2 h.2)) (hyes b ⟨b1, b2⟩) (tr _ _ a1) (fa _ _ a2) (tr _ _ b1) (tr _ _ b2) w
        · exact nums_11 gr sz ni jr a b _ _ _ _ _ 0 0 0 0 HIN (hno a (fun h => a2 h.2)) (hno b (fun h => b2 h.2)) (tr _ _ a1) (fa _ _ a2) (tr _ _ b1) (fa _ _ b2) w
      · exact nums_10 gr sz ni jr a b _ _ _ _ _ 0 0 0 0 HIN (hno a (fun h => a2 h.2)) (hno b (fun h => b1 h.1)) (tr _ _ a1) (fa _ _ a2) (fa _ _ b1) w
  · by_cases b1 : 1 ≤ b
    · by_cases b2 : b ≤ nInodes gr sz ni jr
      · exact nums_02 gr sz ni jr a b _ _ _ _ _ 0 0 0 0 HIN (hno a (fun h => a1 h.1)) (hyes b ⟨b1, b2⟩) (fa _ _ a1) (tr _ _ b1) (tr _ _ b2) w
      · exact nums_01 gr sz ni jr a b _ _ _ _ _ 0 0 0 0 HIN (hno a (fun h => a1 h.1)) (hno b (fun h => b2 h.2)) (fa _ _ a1) (tr _ _ b1) (fa _ _ b2) w
    · exact nums_00 gr sz ni jr a b _ _ _ _ _ 0 0 0 0 HIN (hno a (fun h => a1 h.1)) (hno b (fun h => b1 h.1)) (fa _ _ a1) (fa _ _ b1) w
#print axioms numbers_walk
end Go.Proofs.Ytgakdaohhbdjoaa
