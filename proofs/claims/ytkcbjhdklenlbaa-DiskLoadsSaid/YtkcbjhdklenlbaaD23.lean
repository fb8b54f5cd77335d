/- The law DiskFlushed: the walk. -/
import Derived.Test.YtkcbjhdklenlbaaD22
import Derived.Test.YtkcbjhdklenlbaaOpen
set_option linter.unusedVariables false
set_option linter.unusedSimpArgs false
namespace Go.Proofs.Ytkcbjhdklenlbaa
open Go.RowKit

theorem Flags.bools {w w' : World} {v : Value} {ks : List Bool} (h : Flags w v ks) (S : List Nat) (hg : Below w.heap.size w w') (hS : ∀ k ∈ S, w.heap.size ≤ k) : Bools w' S v ks := by
  obtain ⟨a, cap, rfl, h⟩ := h
  refine ⟨a, cap, rfl, fun i x hx => ?_⟩
  obtain ⟨y, rfl, h1, h2⟩ := h i x hx
  exact ⟨y, rfl, Nat.lt_of_lt_of_le h1 hg.size, fun hm => by have := hS _ hm; omega, (hg.cell (by rw [add_block]; exact h1)).trans h2⟩
theorem Flags.len {w : World} {v : Value} {ks : List Bool} (h : Flags w v ks) : ∃ a cap, v = .slice a ks.length cap := by
  obtain ⟨a, cap, rfl, _⟩ := h
  exact ⟨a, cap, rfl⟩
theorem kept_nil (ks : List Bool) : kept [] ks = [] := by cases ks <;> rfl
theorem flushed_last (N : Nat) (l : List (Int × Nat)) : (putD N l).flushed.last = putM N l := rfl
theorem flushed_safe (N : Nat) (l : List (Int × Nat)) : (putD N l).flushed.safe = putM N l := rfl
theorem flushed_ws (N : Nat) (l : List (Int × Nat)) : (putD N l).flushed.ws = [] := rfl
theorem crashed_last (N : Nat) (l : List (Int × Nat)) (ks : List Bool) : ((putD N l).flushed.crashed ks).last = putM N l := by
  show applyW (putM N l) (kept [] ks) = _
  rw [kept_nil]; rfl
theorem crashed_safe (N : Nat) (l : List (Int × Nat)) (ks : List Bool) : ((putD N l).flushed.crashed ks).safe = putM N l := by
  show applyW (putM N l) (kept [] ks) = _
  rw [kept_nil]; rfl
theorem noughts_length (N : Nat) : (noughts N).length = N := by unfold noughts; rw [List.length_replicate]
set_option maxRecDepth 100000 in
set_option maxHeartbeats 4000000 in
theorem flushed_walk (n : Int) (hn : -9223372036854775808 ≤ n ∧ n ≤ 9223372036854775807) {w : World} {v vk : Value} {l : List (Int × Nat)} (hp : Puts w v l) (hl : l.length ≤ 9223372036854775807) {ks : List Bool} (hks : Flags w vk ks) (hkl : ks.length ≤ 9223372036854775807) :
    Calls Try.prog 6 #[.int .i64 n, v, vk] w fun e w' => e = .returned (.bool true) ∧ Below w.heap.size w w' := by
  obtain ⟨a, cap, rfl⟩ := slot_many hp
  by_cases h3 : 300 < l.length
  · generalize l.length = L at *
    clear hp hks
    have d0 : decide ((300 : Int) < (L : Int)) = true := by simp; omega
    go_enter Try.func6, Try.ntmps6
    go_wp2_with fail
    go_ret
    exact ⟨rfl, Below.refl _ _⟩
  · obtain ⟨N, hN⟩ : ∃ N : Nat, (N : Int) = 1 + n % 64 := ⟨(1 + n % 64).toNat, by omega⟩
    have h1 : 1 ≤ N := by omega
    have h2 : N ≤ 64 := by omega
    have HW := Lib.hid (written_ok n hn N hN hp (by omega))
    obtain ⟨L, hL⟩ : ∃ L, L = l.length := ⟨_, rfl⟩
    have hil := ins_length N l
    rw [← hL] at h3 HW hil ⊢
    have d0 : decide ((300 : Int) < (L : Int)) = false := by simp; omega
    have HIL := Lib.hid (show (ins N l).length ≤ 300 by omega)
    have HKS := Lib.hid hks
    have HKL := Lib.hid hkl
    have HPL := Lib.hid (putM_length N l)
    clear hn hN hp hL hl hks hkl hil
    go_enter Try.func6, Try.ntmps6
    go_wp2_with fail
    refine HW.out.mono ?_
    intro e w1 hpost
    obtain ⟨B, S, gm, cm, he, hd, hr, hgm, hS, hgm1, hgm2, hg⟩ := hpost
    subst he
    have HD := Lib.hid hd
    have HRM := Lib.hid hr
    have HG := Lib.hid hg
    have HS := Lib.hid hS
    have HGM := Lib.hid hgm
    have HWS := Lib.hid (show ∀ p ∈ (putD N l).ws, p.1 < (putD N l).safe.length by rw [show (putD N l).safe.length = N from noughts_length N]; exact ins_lt N l)
    clear hd hr hg hS hgm hgm1 hgm2 HW
    go_wp2_with fail
    refine (flush_ok HD.out (putD_dead N l) HWS.out (show (ins N l).length ≤ _ by have := HIL.out; omega) (show (0 : Int) ≤ ((ins N l).length : Int) ∧ ((ins N l).length : Int) ≤ 1000000 by have := HIL.out; omega) (show (0 : Int) ≤ 0 ∧ (0 : Int) ≤ 9223372036854775807 by omega)).mono ?_
    intro e w2 hpost
    obtain ⟨he, hd, ht⟩ := hpost
    subst he
    have HD2 := Lib.hid hd
    have HRM2 := Lib.hid (HRM.out.kept ht (fun g e => by cases e; exact HGM.out))
    have HG2 := Lib.hid (Below.trans HG.out (ht.below HG.out.size HS.out))
    clear hd ht HD HRM HG HWS
    go_wp2_with fail
    refine (waiting_any HD2.out).mono ?_
    intro e w' hpost
    obtain ⟨he, hw⟩ := hpost
    subst he hw
    rw [flushed_ws]
    go_wp2_with fail
    refine (safe_ok HD2.out).mono ?_
    intro e w3 hpost
    obtain ⟨g3, c3, he, hr3, _, hg3⟩ := hpost
    subst he
    have HR3 := Lib.hid hr3
    have HD3 := Lib.hid (HD2.out.kept (Touch.of_below (S := []) hg3) (by simp))
    have HRM3 := Lib.hid (HRM2.out.kept (Touch.of_below (S := []) hg3) (by simp))
    have HG3 := Lib.hid (Grow.trans HG2.out hg3)
    clear hr3 hg3 HD2 HRM2 HG2
    go_wp2_with fail
    refine (same_yes (l := putM N l) HR3.out HRM3.out (by rw [HPL.out]; exact h1) (by rw [HPL.out]; omega)).mono ?_
    intro e w4 hpost
    obtain ⟨he, hg4⟩ := hpost
    subst he
    have HD4 := Lib.hid (HD3.out.kept (Touch.of_below (S := []) hg4) (by simp))
    have HRM4 := Lib.hid (HRM3.out.kept (Touch.of_below (S := []) hg4) (by simp))
    have HG4 := Lib.hid (Grow.trans HG3.out hg4)
    clear hg4 HD3 HRM3 HG3 HR3
    go_wp2_with fail
    refine (crash_ok HD4.out _ ks (HKS.out.bools S HG4.out HS.out) HKL.out (fun p hp => by rw [flushed_ws] at hp; cases hp) (by rw [flushed_ws]; exact Nat.zero_le _)).mono ?_
    intro e w5 hpost
    obtain ⟨⟨ve, he⟩, hd, ht⟩ := hpost
    subst he
    have HD5 := Lib.hid hd
    have HRM5 := Lib.hid (HRM4.out.kept ht (fun g e => by cases e; exact HGM.out))
    have HG5 := Lib.hid (Below.trans HG4.out (ht.below HG4.out.size HS.out))
    clear hd ht HD4 HRM4 HG4
    go_wp2_with fail
    refine (image_ok HD5.out).mono ?_
    intro e w6 hpost
    obtain ⟨g6, c6, he, hr6, _, hg6⟩ := hpost
    subst he
    rw [crashed_last] at hr6
    rw [crashed_last]
    have HR6 := Lib.hid hr6
    have HD6 := Lib.hid (HD5.out.kept (Touch.of_below (S := []) hg6) (by simp))
    have HRM6 := Lib.hid (HRM5.out.kept (Touch.of_below (S := []) hg6) (by simp))
    have HG6 := Lib.hid (Grow.trans HG5.out hg6)
    clear hr6 hg6 HD5 HRM5 HG5
    go_wp2_with fail
    refine (same_yes (l := putM N l) HR6.out HRM6.out (by rw [HPL.out]; exact h1) (by rw [HPL.out]; omega)).mono ?_
    intro e w7 hpost
    obtain ⟨he, hg7⟩ := hpost
    subst he
    have HD7 := Lib.hid (HD6.out.kept (Touch.of_below (S := []) hg7) (by simp))
    have HRM7 := Lib.hid (HRM6.out.kept (Touch.of_below (S := []) hg7) (by simp))
    have HG7 := Lib.hid (Grow.trans HG6.out hg7)
    clear hg7 HD6 HRM6 HG6 HR6
    go_wp2_with fail
    refine (safe_ok HD7.out).mono ?_
    intro e w8 hpost
    obtain ⟨g8, c8, he, hr8, _, hg8⟩ := hpost
    subst he
    rw [crashed_safe] at hr8
    rw [crashed_safe]
    have HR8 := Lib.hid hr8
    have HD8 := Lib.hid (HD7.out.kept (Touch.of_below (S := []) hg8) (by simp))
    have HRM8 := Lib.hid (HRM7.out.kept (Touch.of_below (S := []) hg8) (by simp))
    have HG8 := Lib.hid (Grow.trans HG7.out hg8)
    clear hr8 hg8 HD7 HRM7 HG7
    go_wp2_with fail
    refine (same_yes (l := putM N l) HR8.out HRM8.out (by rw [HPL.out]; exact h1) (by rw [HPL.out]; omega)).mono ?_
    intro e w9 hpost
    obtain ⟨he, hg9⟩ := hpost
    subst he
    have HD9 := Lib.hid (HD8.out.kept (Touch.of_below (S := []) hg9) (by simp))
    have HG9 := Lib.hid (Grow.trans HG8.out hg9)
    clear hg9 HD8 HRM8 HG8 HR8
    go_wp2_with fail
    refine (waiting_any HD9.out).mono ?_
    intro e w' hpost
    obtain ⟨he, hw⟩ := hpost
    subst he hw
    go_wp2_with fail
    go_ret
    exact ⟨rfl, HG9.out⟩
#print axioms flushed_walk
end Go.Proofs.Ytkcbjhdklenlbaa
