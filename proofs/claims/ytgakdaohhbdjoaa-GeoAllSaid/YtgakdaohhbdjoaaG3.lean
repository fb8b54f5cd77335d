/- What geo.Inodes, Blocks, Data, Start, Number, Home, Inode compute: the walks. -/
import Derived.Test.YtgakdaohhbdjoaaG1
import Derived.Deep.QuietTactic
import Derived.BigQuiet
import Derived.IntWalk
set_option linter.unusedVariables false
set_option linter.unusedSimpArgs false
namespace Go.Proofs.Ytgakdaohhbdjoaa
open Go.RowKit

abbrev gbox (gr sz ni jr : Int) : Obj := .cells #[.int .i64 gr, .int .i64 sz, .int .i64 ni, .int .i64 jr] 23
theorem cell_new (w : World) (cs : Array Value) (t : TypeId) (fz : Nat × Nat) (i : Nat) : (w.alloc (.cells cs t fz)).cell? ⟨w.heap.size, i, none⟩ = cs[i]? := by
  have : (w.alloc (.cells cs t fz)).heap[w.heap.size]? = some (.cells cs t fz) := by
    show (w.heap.push (.cells cs t fz))[w.heap.size]? = _
    simp
  simp only [World.cell?, this]
  rfl
theorem ret_int {k : IntKind} {a b : Int} (h : a = b) : Ending.returned (.int k a) = .returned (.int k b) := by rw [h]
theorem Grow.drewN (w : World) (n : Nat) : Grow w (w.drewN n) := ⟨rfl, rfl, rfl, Nat.le_refl _, fun _ _ => rfl⟩
theorem box_at {w w1 : World} {gr sz ni jr : Int} (h : Grow (w.alloc (gbox gr sz ni jr)) w1) :
    w1.cell? ⟨w.heap.size, 0, none⟩ = some (.int .i64 gr) ∧ w1.cell? ⟨w.heap.size, 1, none⟩ = some (.int .i64 sz) ∧ w1.cell? ⟨w.heap.size, 2, none⟩ = some (.int .i64 ni) ∧ w1.cell? ⟨w.heap.size, 3, none⟩ = some (.int .i64 jr) := by
  have e : ∀ i, w1.cell? ⟨w.heap.size, i, none⟩ = (w.alloc (gbox gr sz ni jr)).cell? ⟨w.heap.size, i, none⟩ := fun i => Below.cell h (by simp)
  refine ⟨?_, ?_, ?_, ?_⟩ <;> rw [e, cell_new] <;> rfl

set_option maxHeartbeats 1000000 in
theorem inodes_yes (gr sz ni jr : Int) (h : May gr sz ni jr) (w : World) :
    Calls Try.prog 24 #[gv gr sz ni jr] w fun e w' => e = .returned (.int .i64 (gr * ni)) ∧ Grow w w' := by
  have hb : 1 * 4 ≤ gr * ni ∧ gr * ni ≤ 4 * 64 := by
    obtain ⟨h1, h2, h3, h4, h5, h6, _⟩ := h
    have a : gr = 1 ∨ gr = 2 ∨ gr = 3 ∨ gr = 4 := by omega
    rcases a with rfl | rfl | rfl | rfl <;> omega
  have HM := Lib.hid h
  clear h
  go_enter Try.func24, Try.ntmps24
  go_wp2_with fail
  refine (may_yes gr sz ni jr HM.out _).mono ?_
  rintro e w1 ⟨rfl, hg⟩
  obtain ⟨c0, c1, c2, c3⟩ := box_at hg
  have HG := Lib.hid hg
  clear hg
  go_wp2_with fail
  go_ret
  exact ⟨rfl, (Grow.alloc _ _).trans HG.out⟩
theorem inodes_no (gr sz ni jr : Int) (h : ¬ May gr sz ni jr) (w : World) :
    Calls Try.prog 24 #[gv gr sz ni jr] w fun e w' => e = .returned (.int .i64 0) ∧ Grow w w' := by
  have HM := Lib.hid h
  clear h
  go_enter Try.func24, Try.ntmps24
  go_wp2_with fail
  refine (may_no gr sz ni jr HM.out _).mono ?_
  rintro e w1 ⟨rfl, hg⟩
  have HG := Lib.hid hg
  clear hg
  go_wp2_with fail
  go_ret
  exact ⟨rfl, (Grow.alloc _ _).trans HG.out⟩

instance (gr sz ni jr : Int) : Decidable (May gr sz ni jr) := by unfold May; infer_instance
def nInodes (gr sz ni jr : Int) : Int := if May gr sz ni jr then gr * ni else 0
theorem inodes_any (gr sz ni jr : Int) (w : World) :
    Calls Try.prog 24 #[gv gr sz ni jr] w fun e w' => e = .returned (.int .i64 (nInodes gr sz ni jr)) ∧ Grow w w' := by
  unfold nInodes
  by_cases h : May gr sz ni jr
  · rw [if_pos h]; exact inodes_yes gr sz ni jr h w
  · rw [if_neg h]; exact inodes_no gr sz ni jr h w
theorem mul_gi {gr ni : Int} (h1 : 1 ≤ gr) (h2 : gr ≤ 4) (h3 : 4 ≤ ni) (h4 : ni ≤ 64) : ni ≤ gr * ni ∧ gr * ni ≤ 256 := by
  have a : gr = 1 ∨ gr = 2 ∨ gr = 3 ∨ gr = 4 := by omega
  rcases a with rfl | rfl | rfl | rfl <;> omega

set_option maxHeartbeats 1000000 in
theorem home_yes (gr sz ni jr ino : Int) (h : May gr sz ni jr) (h1 : 1 ≤ ino) (h2 : ino ≤ gr * ni) (w : World) :
    Calls Try.prog 12 #[gv gr sz ni jr, .int .i64 ino] w fun e w' => e = .returned (.tuple #[.int .i64 ((ino - 1) / ni), .int .i64 ((ino - 1) % ni), .bool true]) ∧ Grow w w' := by
  have HM := Lib.hid (show nInodes gr sz ni jr = gr * ni from if_pos h)
  obtain ⟨g1, g2, _, _, g5, g6, _⟩ := h
  have hb := mul_gi g1 g2 g5 g6
  have d1 : decide (ino < 1) = false := by simp; omega
  have d2 : decide (gr * ni < ino) = false := by simp; omega
  have e1 : IntKind.i64.wrap (ino - 1) = ino - 1 := IntWalk.i64_in _ (by omega)
  have e2 : (ino - 1).tdiv ni = (ino - 1) / ni := Int.tdiv_eq_ediv_of_nonneg (by omega)
  have e3 : (ino - 1).tmod ni = (ino - 1) % ni := Int.tmod_eq_emod_of_nonneg (by omega)
  have q1 : 0 ≤ (ino - 1) / ni := Int.ediv_nonneg (by omega) (by omega)
  have q2 : (ino - 1) / ni ≤ ino - 1 := Int.ediv_le_self _ (by omega)
  have q3 : 0 ≤ (ino - 1) % ni := Int.emod_nonneg _ (by omega)
  have q4 : (ino - 1) % ni < ni := Int.emod_lt_of_pos _ (by omega)
  have e4 : IntKind.i64.wrap ((ino - 1) / ni) = (ino - 1) / ni := IntWalk.i64_in _ (by omega)
  have e5 : IntKind.i64.wrap ((ino - 1) % ni) = (ino - 1) % ni := IntWalk.i64_in _ (by omega)
  have e6 : (ni == 0) = false := by rw [beq_eq_false_iff_ne]; omega
  have e7 : ¬ ni = 0 := by omega
  have E1 := Lib.hid e1
  have E2 := Lib.hid e2
  have E3 := Lib.hid e3
  have E4 := Lib.hid e4
  have E5 := Lib.hid e5
  clear e1 e2 e3 e4 e5
  go_enter Try.func12, Try.ntmps12
  go_wp2_with fail
  refine (inodes_any gr sz ni jr _).mono ?_
  rintro e w1 ⟨rfl, hg⟩
  rw [HM.out]
  obtain ⟨c0, c1, c2, c3⟩ := box_at hg
  have HG := Lib.hid hg
  clear hg
  go_wp2_with fail
  have e1 := E1.out
  have e2 := E2.out
  have e3 := E3.out
  have e4 := E4.out
  have e5 := E5.out
  go_quiet (fail)
  go_wp2_with fail
  go_ret3
  exact ⟨rfl, (Grow.alloc _ _).trans (HG.out.trans (Grow.drewN _ _))⟩
set_option maxHeartbeats 1000000 in
theorem home_no (gr sz ni jr ino : Int) (h : ino < 1 ∨ nInodes gr sz ni jr < ino) (w : World) :
    Calls Try.prog 12 #[gv gr sz ni jr, .int .i64 ino] w fun e w' => e = .returned (.tuple #[.int .i64 0, .int .i64 0, .bool false]) ∧ Grow w w' := by
  by_cases h1 : ino < 1
  · clear h
    go_enter Try.func12, Try.ntmps12
    go_wp2_with fail
    go_ret3
    exact ⟨rfl, Grow.alloc _ _⟩
  · have h2 : nInodes gr sz ni jr < ino := by omega
    clear h
    generalize hm : nInodes gr sz ni jr = m at *
    have HM := Lib.hid hm
    clear hm
    go_enter Try.func12, Try.ntmps12
    go_wp2_with fail
    refine (inodes_any gr sz ni jr _).mono ?_
    rintro e w1 ⟨rfl, hg⟩
    rw [HM.out]
    have HG := Lib.hid hg
    clear hg
    go_wp2_with fail
    go_ret3
    exact ⟨rfl, (Grow.alloc _ _).trans HG.out⟩

set_option maxHeartbeats 1000000 in
theorem start_yes (gr sz ni jr k : Int) (h : May gr sz ni jr) (h1 : 0 ≤ k) (h2 : k < gr) (w : World) :
    Calls Try.prog 16 #[gv gr sz ni jr, .int .i64 k] w fun e w' => e = .returned (.tuple #[.int .i64 (2 + jr + k * sz), .bool true]) ∧ Grow w w' := by
  have HM := Lib.hid h
  obtain ⟨g1, g2, g3, g4, g5, g6, _, g8, g9, _⟩ := h
  have hb : 0 ≤ k * sz ∧ k * sz ≤ 2048 := by
    have a : k = 0 ∨ k = 1 ∨ k = 2 ∨ k = 3 := by omega
    rcases a with rfl | rfl | rfl | rfl <;> omega
  have d1 : decide (k < 0) = false := by simp; omega
  have d2 : decide (gr ≤ k) = false := by simp; omega
  go_enter Try.func16, Try.ntmps16
  go_wp2_with fail
  refine (may_yes gr sz ni jr HM.out _).mono ?_
  rintro e w1 ⟨rfl, hg⟩
  obtain ⟨c0, c1, c2, c3⟩ := box_at hg
  have HG := Lib.hid hg
  clear hg
  go_wp2_with fail
  go_ret2
  exact ⟨rfl, (Grow.alloc _ _).trans HG.out⟩
set_option maxHeartbeats 1000000 in
theorem start_no (gr sz ni jr k : Int) (h : ¬ May gr sz ni jr ∨ k < 0 ∨ gr ≤ k) (w : World) :
    Calls Try.prog 16 #[gv gr sz ni jr, .int .i64 k] w fun e w' => e = .returned (.tuple #[.int .i64 0, .bool false]) ∧ Grow w w' := by
  by_cases hm : May gr sz ni jr
  · have HM := Lib.hid hm
    clear hm
    by_cases h1 : k < 0
    · clear h
      go_enter Try.func16, Try.ntmps16
      go_wp2_with fail
      refine (may_yes gr sz ni jr HM.out _).mono ?_
      rintro e w1 ⟨rfl, hg⟩
      obtain ⟨c0, c1, c2, c3⟩ := box_at hg
      have HG := Lib.hid hg
      clear hg
      go_wp2_with fail
      go_ret2
      exact ⟨rfl, (Grow.alloc _ _).trans HG.out⟩
    · have h2 : gr ≤ k := by
        rcases h with h | h | h
        · exact absurd HM.out h
        · omega
        · exact h
      clear h
      go_enter Try.func16, Try.ntmps16
      go_wp2_with fail
      refine (may_yes gr sz ni jr HM.out _).mono ?_
      rintro e w1 ⟨rfl, hg⟩
      obtain ⟨c0, c1, c2, c3⟩ := box_at hg
      have HG := Lib.hid hg
      clear hg
      go_wp2_with fail
      go_ret2
      exact ⟨rfl, (Grow.alloc _ _).trans HG.out⟩
  · have HM := Lib.hid hm
    clear hm h
    go_enter Try.func16, Try.ntmps16
    go_wp2_with fail
    refine (may_no gr sz ni jr HM.out _).mono ?_
    rintro e w1 ⟨rfl, hg⟩
    obtain ⟨c0, c1, c2, c3⟩ := box_at hg
    have HG := Lib.hid hg
    clear hg
    go_wp2_with fail
    go_ret2
    exact ⟨rfl, (Grow.alloc _ _).trans HG.out⟩

/-- the number of a group and a bit -/
def numberOf (gr sz ni jr k b : Int) : Int := if May gr sz ni jr ∧ 0 ≤ k ∧ k < gr ∧ 0 ≤ b ∧ b < ni then k * ni + b + 1 else 0
set_option maxHeartbeats 1000000 in
theorem number_yes (gr sz ni jr k b : Int) (h : May gr sz ni jr) (h1 : 0 ≤ k) (h2 : k < gr) (h3 : 0 ≤ b) (h4 : b < ni) (w : World) :
    Calls Try.prog 15 #[gv gr sz ni jr, .int .i64 k, .int .i64 b] w fun e w' => e = .returned (.int .i64 (k * ni + b + 1)) ∧ Grow w w' := by
  have HM := Lib.hid h
  obtain ⟨g1, g2, g3, g4, g5, g6, _, g8, g9, _⟩ := h
  have hb : 0 ≤ k * ni ∧ k * ni ≤ 256 := by
    have a : k = 0 ∨ k = 1 ∨ k = 2 ∨ k = 3 := by omega
    rcases a with rfl | rfl | rfl | rfl <;> omega
  have d1 : decide (k < 0) = false := by simp; omega
  have d2 : decide (gr ≤ k) = false := by simp; omega
  have d3 : decide (b < 0) = false := by simp; omega
  have d4 : decide (ni ≤ b) = false := by simp; omega
  go_enter Try.func15, Try.ntmps15
  go_wp2_with fail
  refine (may_yes gr sz ni jr HM.out _).mono ?_
  rintro e w1 ⟨rfl, hg⟩
  obtain ⟨c0, c1, c2, c3⟩ := box_at hg
  have HG := Lib.hid hg
  clear hg
  go_wp2_with fail
  go_ret
  refine ⟨ret_int ?_, (Grow.alloc _ _).trans HG.out⟩
  omega
set_option maxHeartbeats 1000000 in
theorem number_no (gr sz ni jr k b : Int) (h : ¬ (May gr sz ni jr ∧ 0 ≤ k ∧ k < gr ∧ 0 ≤ b ∧ b < ni)) (w : World) :
    Calls Try.prog 15 #[gv gr sz ni jr, .int .i64 k, .int .i64 b] w fun e w' => e = .returned (.int .i64 0) ∧ Grow w w' := by
  by_cases hm : May gr sz ni jr
  case neg =>
    have HM := Lib.hid hm
    clear hm h
    go_enter Try.func15, Try.ntmps15
    go_wp2_with fail
    refine (may_no gr sz ni jr HM.out _).mono ?_
    rintro e w1 ⟨rfl, hg⟩
    obtain ⟨c0, c1, c2, c3⟩ := box_at hg
    have HG := Lib.hid hg
    clear hg
    go_wp2_with fail
    go_ret
    exact ⟨rfl, (Grow.alloc _ _).trans HG.out⟩
  have HM := Lib.hid hm
  have h' : k < 0 ∨ gr ≤ k ∨ b < 0 ∨ ni ≤ b := by
    by_cases a1 : k < 0
    · exact .inl a1
    by_cases a2 : gr ≤ k
    · exact .inr (.inl a2)
    by_cases a3 : b < 0
    · exact .inr (.inr (.inl a3))
    by_cases a4 : ni ≤ b
    · exact .inr (.inr (.inr a4))
    exact absurd ⟨hm, by omega, by omega, by omega, by omega⟩ h
  clear h hm
  by_cases h1 : k < 0
  · clear h'
    go_enter Try.func15, Try.ntmps15
    go_wp2_with fail
    refine (may_yes gr sz ni jr HM.out _).mono ?_
    rintro e w1 ⟨rfl, hg⟩
    obtain ⟨c0, c1, c2, c3⟩ := box_at hg
    have HG := Lib.hid hg
    clear hg
    go_wp2_with fail
    go_ret
    exact ⟨rfl, (Grow.alloc _ _).trans HG.out⟩
  by_cases h2 : gr ≤ k
  · clear h'
    go_enter Try.func15, Try.ntmps15
    go_wp2_with fail
    refine (may_yes gr sz ni jr HM.out _).mono ?_
    rintro e w1 ⟨rfl, hg⟩
    obtain ⟨c0, c1, c2, c3⟩ := box_at hg
    have HG := Lib.hid hg
    clear hg
    go_wp2_with fail
    go_ret
    exact ⟨rfl, (Grow.alloc _ _).trans HG.out⟩
  by_cases h3 : b < 0
  · clear h'
    go_enter Try.func15, Try.ntmps15
    go_wp2_with fail
    refine (may_yes gr sz ni jr HM.out _).mono ?_
    rintro e w1 ⟨rfl, hg⟩
    obtain ⟨c0, c1, c2, c3⟩ := box_at hg
    have HG := Lib.hid hg
    clear hg
    go_wp2_with fail
    go_ret
    exact ⟨rfl, (Grow.alloc _ _).trans HG.out⟩
  · have h4 : ni ≤ b := by omega
    clear h'
    go_enter Try.func15, Try.ntmps15
    go_wp2_with fail
    refine (may_yes gr sz ni jr HM.out _).mono ?_
    rintro e w1 ⟨rfl, hg⟩
    obtain ⟨c0, c1, c2, c3⟩ := box_at hg
    have HG := Lib.hid hg
    clear hg
    go_wp2_with fail
    go_ret
    exact ⟨rfl, (Grow.alloc _ _).trans HG.out⟩
theorem number_any (gr sz ni jr k b : Int) (w : World) :
    Calls Try.prog 15 #[gv gr sz ni jr, .int .i64 k, .int .i64 b] w fun e w' => e = .returned (.int .i64 (numberOf gr sz ni jr k b)) ∧ Grow w w' := by
  unfold numberOf
  by_cases h : May gr sz ni jr ∧ 0 ≤ k ∧ k < gr ∧ 0 ≤ b ∧ b < ni
  · rw [if_pos h]; exact number_yes gr sz ni jr k b h.1 h.2.1 h.2.2.1 h.2.2.2.1 h.2.2.2.2 w
  · rw [if_neg h]; exact number_no gr sz ni jr k b h w

end Go.Proofs.Ytgakdaohhbdjoaa
