/- The law DiskWrites: the walk. -/
import Derived.Test.YtkcbjhdklenlbaaD21
set_option linter.unusedVariables false
set_option linter.unusedSimpArgs false
namespace Go.Proofs.Ytkcbjhdklenlbaa
open Go.RowKit

theorem slot_many {w : World} {v : Value} {l : List (Int × Nat)} (hp : Puts w v l) : ∃ a cap, v = .slice a l.length cap := by
  obtain ⟨a, cap, rfl, _⟩ := hp
  exact ⟨a, cap, rfl⟩
theorem putD_dead (n : Nat) (l : List (Int × Nat)) : (putD n l).dead = false := rfl
set_option maxRecDepth 100000 in
set_option maxHeartbeats 4000000 in
theorem writes_walk (n : Int) (hn : -9223372036854775808 ≤ n ∧ n ≤ 9223372036854775807) {w : World} {v : Value} {l : List (Int × Nat)} (hp : Puts w v l) (hl : l.length ≤ 9223372036854775807) :
    Calls Try.prog 4 #[.int .i64 n, v] w fun e w' => e = .returned (.bool true) ∧ Below w.heap.size w w' := by
  obtain ⟨a, cap, rfl⟩ := slot_many hp
  by_cases h3 : 300 < l.length
  · generalize l.length = L at *
    clear hp
    have d0 : decide ((300 : Int) < (L : Int)) = true := by simp; omega
    go_enter Try.func4, Try.ntmps4
    go_wp2_with fail
    go_ret
    exact ⟨rfl, Below.refl _ _⟩
  · obtain ⟨N, hN⟩ : ∃ N : Nat, (N : Int) = 1 + n % 64 := ⟨(1 + n % 64).toNat, by omega⟩
    have h1 : 1 ≤ N := by omega
    have h2 : N ≤ 64 := by omega
    have HW := Lib.hid (written_ok n hn N hN hp (by omega))
    obtain ⟨L, hL⟩ : ∃ L, L = l.length := ⟨_, rfl⟩
    rw [← hL] at h3 HW ⊢
    have d0 : decide ((300 : Int) < (L : Int)) = false := by simp; omega
    obtain ⟨M, hM, hmk⟩ := mk_run N (by omega)
    have HMM := Lib.hid hM
    have HMK := Lib.hid hmk
    clear hn hN hp hL hM hmk hl
    go_enter Try.func4, Try.ntmps4
    go_wp2_with fail
    refine HW.out.mono ?_
    intro e w1 hpost
    obtain ⟨B, S, gm, cm, he, hd, hr, hgm, hS, hgm1, hgm2, hg⟩ := hpost
    subst he
    have HD := Lib.hid hd
    have HRM := Lib.hid hr
    have HG := Lib.hid hg
    obtain ⟨m, hm⟩ : ∃ m, m = (ins N l).length := ⟨_, rfl⟩
    rw [← hm]
    have HM := Lib.hid (show (putD N l).ws.length = m from hm.symm)
    have HA := Lib.hid (show (putD N l).acts = (m : Int) by rw [hm]; rfl)
    have HN := Lib.hid (show (putD N l).safe.length = N by show (noughts N).length = N; unfold noughts; rw [List.length_replicate])
    have HL1 := Lib.hid (show 1 ≤ (putM N l).length by rw [putM_length]; exact h1)
    have HL2 := Lib.hid (show (putM N l).length ≤ 4096 by rw [putM_length]; omega)
    have HK1 := Lib.hid (show 1 ≤ (noughts N).length by unfold noughts; rw [List.length_replicate]; exact h1)
    have HK2 := Lib.hid (show (noughts N).length ≤ 4096 by unfold noughts; rw [List.length_replicate]; omega)
    have HN2 := Lib.hid (show N ≤ 4096 by omega)
    have HPL := Lib.hid (putM_length N l)
    clear hd hr hg hm hS hgm hgm1 hgm2
    go_upto_region 4 with (fail)
    refine wp_region_facts (by kernel_rfl) [[], [(0, some 23)], [(1, some 24)], [(2, some 25)], [(2, some 25), (3, some 26)], [(2, some 25)], [(2, some 25), (4, some 27), (5, some 28)], [(2, some 25), (6, some 29)], [(4, some 27), (7, some 30)], [(8, some 31)], [(8, some 31), (9, some 32)], [(8, some 31)], [(8, some 31), (10, some 33), (11, some 34)], [(8, some 31), (12, some 35)], [(10, some 33), (13, some 36)], [(14, some 37)], [(14, some 37), (15, some 38)], [(14, some 37)], [(14, some 37), (17, some 40)], [(14, some 37), (16, some 39), (18, some 41)], [(14, some 37), (19, some 42)], [(16, some 39), (20, some 43)], [(21, some 44)], [(21, some 44), (22, some 45)], [(21, some 44)], [(21, some 44), (23, some 46), (24, some 47)], [(21, some 44), (25, some 48)], [(21, some 44), (26, some 49)], [(25, some 48), (27, some 50)], [(28, some 51)], [(28, some 51), (29, some 52)], [(28, some 51)], [(28, some 51), (31, some 54)], [(28, some 51), (32, some 55)], [(28, some 51), (30, some 53), (33, some 56)], [(28, some 51), (34, some 57)], [(28, some 51), (35, some 58)]] [(0, some 23), (1, some 24), (2, some 25), (3, some 26), (4, some 27), (5, some 28), (6, some 29), (7, some 30), (8, some 31), (9, some 32), (10, some 33), (11, some 34), (12, some 35), (13, some 36), (14, some 37), (15, some 38), (16, some 39), (17, some 40), (18, some 41), (19, some 42), (20, some 43), (21, some 44), (22, some 45), (23, some 46), (24, some 47), (25, some 48), (26, some 49), (27, some 50), (28, some 51), (29, some 52), (30, some 53), (31, some 54), (32, some 55), (33, some 56), (34, some 57), (35, some 58), (36, some 59)] (by kernel_rfl) (by kernel_rfl) (by kernel_rfl) (Touch []) (Touch.refl []) (fun _ _ _ h h' => h.trans h' (fun i hi => .inl hi)) [Is (Value.bool true), Is (Value.bool false), Is (Value.bool false), Is (Value.pointer (some ⟨B, 0, none⟩)), Is (Value.int .i64 (m : Int)), Is (Value.int .i64 (m : Int)), Is (Value.bool false), Is (Value.bool false), Is (Value.bool false), Is (Value.pointer (some ⟨B, 0, none⟩)), Is (Value.int .i64 (m : Int)), Is (Value.int .i64 (m : Int)), Is (Value.bool false), Is (Value.bool false), Is (Value.bool false), Is (Value.pointer (some ⟨B, 0, none⟩)), Is (Value.int .i64 (N : Int)), Is (Value.slice (some ⟨gm, 0, none⟩) N cm), Is (Value.int .i64 (N : Int)), Is (Value.bool false), Is (Value.bool false), Is (Value.bool false), Is (Value.pointer (some ⟨B, 0, none⟩)), (fun v wx => Row wx 32 256 v ((putM N l).map bc)), Is (Value.slice (some ⟨gm, 0, none⟩) N cm), Is (Value.bool true), Is (Value.bool false), Is (Value.bool false), Is (Value.bool false), Is (Value.pointer (some ⟨B, 0, none⟩)), (fun v wx => Row wx 32 256 v ((noughts N).map bc)), Is (Value.slice (some ⟨gm, 0, none⟩) N cm), Is (Value.int .i64 (N : Int)), (fun v wx => Row wx 32 256 v ((noughts N).map bc)), Is (Value.bool true), Is (Value.bool false), Is (Value.bool false)] rfl ⟨is_stab _ _, is_stab _ _, is_stab _ _, is_stab _ _, is_stab _ _, is_stab _ _, is_stab _ _, is_stab _ _, is_stab _ _, is_stab _ _, is_stab _ _, is_stab _ _, is_stab _ _, is_stab _ _, is_stab _ _, is_stab _ _, is_stab _ _, is_stab _ _, is_stab _ _, is_stab _ _, is_stab _ _, is_stab _ _, is_stab _ _, (fun v w w' ht h => Row.kept h ht (by simp)), is_stab _ _, is_stab _ _, is_stab _ _, is_stab _ _, is_stab _ _, is_stab _ _, (fun v w w' ht h => Row.kept h ht (by simp)), is_stab _ _, is_stab _ _, (fun v w w' ht h => Row.kept h ht (by simp)), is_stab _ _, is_stab _ _, is_stab _ _, trivial⟩ ⟨?o0, ?o1, ?o2, ?o3, ?o4, ?o5, ?o6, ?o7, ?o8, ?o9, ?o10, ?o11, ?o12, ?o13, ?o14, ?o15, ?o16, ?o17, ?o18, ?o19, ?o20, ?o21, ?o22, ?o23, ?o24, ?o25, ?o26, ?o27, ?o28, ?o29, ?o30, ?o31, ?o32, ?o33, ?o34, ?o35, ?o36, trivial⟩ ?_
    case o0 =>
      intro vals wq hRq hpq
      simp only [List.getD_cons_zero, List.getD_cons_succ, canonP]
      simp only [Oper.gives]
      go_simp
      exact ⟨is_mk _ _, (Touch.refl []) _⟩
    case o1 =>
      intro vals wq hRq hpq
      simp only [factsP, List.getD_cons_zero, List.getD_cons_succ] at hpq
      have f0 := hpq.1
      replace hpq := hpq.2
      clear hpq
      replace f0 : vals 0 = _ := f0
      simp only [List.getD_cons_zero, List.getD_cons_succ, canonP, f0]
      clear f0
      simp only [Oper.gives]
      go_simp
      exact ⟨is_mk _ _, (Touch.refl []) _⟩
    case o2 =>
      intro vals wq hRq hpq
      simp only [factsP, List.getD_cons_zero, List.getD_cons_succ] at hpq
      have f1 := hpq.1
      replace hpq := hpq.2
      clear hpq
      replace f1 : vals 1 = _ := f1
      simp only [List.getD_cons_zero, List.getD_cons_succ, canonP, f1]
      clear f1
      simp only [Oper.gives]
      go_simp
      exact ⟨is_mk _ _, (Touch.refl []) _⟩
    case o3 =>
      intro vals wq hRq hpq
      simp only [factsP, List.getD_cons_zero, List.getD_cons_succ] at hpq
      have f2 := hpq.1
      replace hpq := hpq.2
      clear hpq
      replace f2 : vals 2 = _ := f2
      simp only [List.getD_cons_zero, List.getD_cons_succ, canonP, f2]
      clear f2
      simp only [Oper.gives]
      go_simp
      exact ⟨is_mk _ _, (Touch.refl []) _⟩
    case o4 =>
      intro vals wq hRq hpq
      simp only [factsP, List.getD_cons_zero, List.getD_cons_succ] at hpq
      have f2 := hpq.1
      replace hpq := hpq.2
      have f3 := hpq.1
      replace hpq := hpq.2
      clear hpq
      replace f2 : vals 2 = _ := f2
      replace f3 : vals 3 = _ := f3
      simp only [List.getD_cons_zero, List.getD_cons_succ, canonP, f2, f3]
      clear f2 f3
      simp only [Oper.gives]
      go_simp
      exact (HM.out ▸ waiting_any (HD.out.kept ((Touch.drew [] _).trans hRq (by simp)) (by simp))).mono fun e w' ⟨he, hg⟩ => ⟨_, he, is_mk _ _, hg ▸ Touch.refl _ _⟩
    case o5 =>
      intro vals wq hRq hpq
      simp only [factsP, List.getD_cons_zero, List.getD_cons_succ] at hpq
      have f2 := hpq.1
      replace hpq := hpq.2
      clear hpq
      replace f2 : vals 2 = _ := f2
      simp only [List.getD_cons_zero, List.getD_cons_succ, canonP, f2]
      clear f2
      simp only [Oper.gives]
      go_simp
      exact ⟨is_mk _ _, (Touch.refl []) _⟩
    case o6 =>
      intro vals wq hRq hpq
      simp only [factsP, List.getD_cons_zero, List.getD_cons_succ] at hpq
      have f2 := hpq.1
      replace hpq := hpq.2
      have f4 := hpq.1
      replace hpq := hpq.2
      have f5 := hpq.1
      replace hpq := hpq.2
      clear hpq
      replace f2 : vals 2 = _ := f2
      replace f4 : vals 4 = _ := f4
      replace f5 : vals 5 = _ := f5
      simp only [List.getD_cons_zero, List.getD_cons_succ, canonP, f2, f4, f5]
      clear f2 f4 f5
      simp only [Oper.gives]
      go_simp
      exact ⟨is_mk _ _, (Touch.refl []) _⟩
    case o7 =>
      intro vals wq hRq hpq
      simp only [factsP, List.getD_cons_zero, List.getD_cons_succ] at hpq
      have f2 := hpq.1
      replace hpq := hpq.2
      have f6 := hpq.1
      replace hpq := hpq.2
      clear hpq
      replace f2 : vals 2 = _ := f2
      replace f6 : vals 6 = _ := f6
      simp only [List.getD_cons_zero, List.getD_cons_succ, canonP, f2, f6]
      clear f2 f6
      simp only [Oper.gives]
      go_simp
      exact ⟨is_mk _ _, (Touch.refl []) _⟩
    case o8 =>
      intro vals wq hRq hpq
      simp only [factsP, List.getD_cons_zero, List.getD_cons_succ] at hpq
      have f4 := hpq.1
      replace hpq := hpq.2
      have f7 := hpq.1
      replace hpq := hpq.2
      clear hpq
      replace f4 : vals 4 = _ := f4
      replace f7 : vals 7 = _ := f7
      simp only [List.getD_cons_zero, List.getD_cons_succ, canonP, f4, f7]
      clear f4 f7
      simp only [Oper.gives]
      go_simp
      exact ⟨is_mk _ _, (Touch.refl []) _⟩
    case o9 =>
      intro vals wq hRq hpq
      simp only [factsP, List.getD_cons_zero, List.getD_cons_succ] at hpq
      have f8 := hpq.1
      replace hpq := hpq.2
      clear hpq
      replace f8 : vals 8 = _ := f8
      simp only [List.getD_cons_zero, List.getD_cons_succ, canonP, f8]
      clear f8
      simp only [Oper.gives]
      go_simp
      exact ⟨is_mk _ _, (Touch.refl []) _⟩
    case o10 =>
      intro vals wq hRq hpq
      simp only [factsP, List.getD_cons_zero, List.getD_cons_succ] at hpq
      have f8 := hpq.1
      replace hpq := hpq.2
      have f9 := hpq.1
      replace hpq := hpq.2
      clear hpq
      replace f8 : vals 8 = _ := f8
      replace f9 : vals 9 = _ := f9
      simp only [List.getD_cons_zero, List.getD_cons_succ, canonP, f8, f9]
      clear f8 f9
      simp only [Oper.gives]
      go_simp
      exact (HA.out ▸ acts_any (HD.out.kept ((Touch.drew [] _).trans hRq (by simp)) (by simp))).mono fun e w' ⟨he, hg⟩ => ⟨_, he, is_mk _ _, hg ▸ Touch.refl _ _⟩
    case o11 =>
      intro vals wq hRq hpq
      simp only [factsP, List.getD_cons_zero, List.getD_cons_succ] at hpq
      have f8 := hpq.1
      replace hpq := hpq.2
      clear hpq
      replace f8 : vals 8 = _ := f8
      simp only [List.getD_cons_zero, List.getD_cons_succ, canonP, f8]
      clear f8
      simp only [Oper.gives]
      go_simp
      exact ⟨is_mk _ _, (Touch.refl []) _⟩
    case o12 =>
      intro vals wq hRq hpq
      simp only [factsP, List.getD_cons_zero, List.getD_cons_succ] at hpq
      have f8 := hpq.1
      replace hpq := hpq.2
      have f10 := hpq.1
      replace hpq := hpq.2
      have f11 := hpq.1
      replace hpq := hpq.2
      clear hpq
      replace f8 : vals 8 = _ := f8
      replace f10 : vals 10 = _ := f10
      replace f11 : vals 11 = _ := f11
      simp only [List.getD_cons_zero, List.getD_cons_succ, canonP, f8, f10, f11]
      clear f8 f10 f11
      simp only [Oper.gives]
      go_simp
      exact ⟨is_mk _ _, (Touch.refl []) _⟩
    case o13 =>
      intro vals wq hRq hpq
      simp only [factsP, List.getD_cons_zero, List.getD_cons_succ] at hpq
      have f8 := hpq.1
      replace hpq := hpq.2
      have f12 := hpq.1
      replace hpq := hpq.2
      clear hpq
      replace f8 : vals 8 = _ := f8
      replace f12 : vals 12 = _ := f12
      simp only [List.getD_cons_zero, List.getD_cons_succ, canonP, f8, f12]
      clear f8 f12
      simp only [Oper.gives]
      go_simp
      exact ⟨is_mk _ _, (Touch.refl []) _⟩
    case o14 =>
      intro vals wq hRq hpq
      simp only [factsP, List.getD_cons_zero, List.getD_cons_succ] at hpq
      have f10 := hpq.1
      replace hpq := hpq.2
      have f13 := hpq.1
      replace hpq := hpq.2
      clear hpq
      replace f10 : vals 10 = _ := f10
      replace f13 : vals 13 = _ := f13
      simp only [List.getD_cons_zero, List.getD_cons_succ, canonP, f10, f13]
      clear f10 f13
      simp only [Oper.gives]
      go_simp
      exact ⟨is_mk _ _, (Touch.refl []) _⟩
    case o15 =>
      intro vals wq hRq hpq
      simp only [factsP, List.getD_cons_zero, List.getD_cons_succ] at hpq
      have f14 := hpq.1
      replace hpq := hpq.2
      clear hpq
      replace f14 : vals 14 = _ := f14
      simp only [List.getD_cons_zero, List.getD_cons_succ, canonP, f14]
      clear f14
      simp only [Oper.gives]
      go_simp
      exact ⟨is_mk _ _, (Touch.refl []) _⟩
    case o16 =>
      intro vals wq hRq hpq
      simp only [factsP, List.getD_cons_zero, List.getD_cons_succ] at hpq
      have f14 := hpq.1
      replace hpq := hpq.2
      have f15 := hpq.1
      replace hpq := hpq.2
      clear hpq
      replace f14 : vals 14 = _ := f14
      replace f15 : vals 15 = _ := f15
      simp only [List.getD_cons_zero, List.getD_cons_succ, canonP, f14, f15]
      clear f14 f15
      simp only [Oper.gives]
      go_simp
      exact (HN.out ▸ blocks_any (HD.out.kept ((Touch.drew [] _).trans hRq (by simp)) (by simp))).mono fun e w' ⟨he, hg⟩ => ⟨_, he, is_mk _ _, hg ▸ Touch.refl _ _⟩
    case o17 =>
      intro vals wq hRq hpq
      simp only [factsP, List.getD_cons_zero, List.getD_cons_succ] at hpq
      have f14 := hpq.1
      replace hpq := hpq.2
      clear hpq
      replace f14 : vals 14 = _ := f14
      simp only [List.getD_cons_zero, List.getD_cons_succ, canonP, f14]
      clear f14
      simp only [Oper.gives]
      go_simp
      exact ⟨is_mk _ _, (Touch.refl []) _⟩
    case o18 =>
      intro vals wq hRq hpq
      simp only [factsP, List.getD_cons_zero, List.getD_cons_succ] at hpq
      have f14 := hpq.1
      replace hpq := hpq.2
      have f17 := hpq.1
      replace hpq := hpq.2
      clear hpq
      replace f14 : vals 14 = _ := f14
      replace f17 : vals 17 = _ := f17
      simp only [List.getD_cons_zero, List.getD_cons_succ, canonP, f14, f17]
      clear f14 f17
      simp only [Oper.gives]
      go_simp
      exact ⟨is_mk _ _, (Touch.refl []) _⟩
    case o19 =>
      intro vals wq hRq hpq
      simp only [factsP, List.getD_cons_zero, List.getD_cons_succ] at hpq
      have f14 := hpq.1
      replace hpq := hpq.2
      have f16 := hpq.1
      replace hpq := hpq.2
      have f18 := hpq.1
      replace hpq := hpq.2
      clear hpq
      replace f14 : vals 14 = _ := f14
      replace f16 : vals 16 = _ := f16
      replace f18 : vals 18 = _ := f18
      simp only [List.getD_cons_zero, List.getD_cons_succ, canonP, f14, f16, f18]
      clear f14 f16 f18
      simp only [Oper.gives]
      go_simp
      exact ⟨is_mk _ _, (Touch.refl []) _⟩
    case o20 =>
      intro vals wq hRq hpq
      simp only [factsP, List.getD_cons_zero, List.getD_cons_succ] at hpq
      have f14 := hpq.1
      replace hpq := hpq.2
      have f19 := hpq.1
      replace hpq := hpq.2
      clear hpq
      replace f14 : vals 14 = _ := f14
      replace f19 : vals 19 = _ := f19
      simp only [List.getD_cons_zero, List.getD_cons_succ, canonP, f14, f19]
      clear f14 f19
      simp only [Oper.gives]
      go_simp
      exact ⟨is_mk _ _, (Touch.refl []) _⟩
    case o21 =>
      intro vals wq hRq hpq
      simp only [factsP, List.getD_cons_zero, List.getD_cons_succ] at hpq
      have f16 := hpq.1
      replace hpq := hpq.2
      have f20 := hpq.1
      replace hpq := hpq.2
      clear hpq
      replace f16 : vals 16 = _ := f16
      replace f20 : vals 20 = _ := f20
      simp only [List.getD_cons_zero, List.getD_cons_succ, canonP, f16, f20]
      clear f16 f20
      simp only [Oper.gives]
      go_simp
      exact ⟨is_mk _ _, (Touch.refl []) _⟩
    case o22 =>
      intro vals wq hRq hpq
      simp only [factsP, List.getD_cons_zero, List.getD_cons_succ] at hpq
      have f21 := hpq.1
      replace hpq := hpq.2
      clear hpq
      replace f21 : vals 21 = _ := f21
      simp only [List.getD_cons_zero, List.getD_cons_succ, canonP, f21]
      clear f21
      simp only [Oper.gives]
      go_simp
      exact ⟨is_mk _ _, (Touch.refl []) _⟩
    case o23 =>
      intro vals wq hRq hpq
      simp only [factsP, List.getD_cons_zero, List.getD_cons_succ] at hpq
      have f21 := hpq.1
      replace hpq := hpq.2
      have f22 := hpq.1
      replace hpq := hpq.2
      clear hpq
      replace f21 : vals 21 = _ := f21
      replace f22 : vals 22 = _ := f22
      simp only [List.getD_cons_zero, List.getD_cons_succ, canonP, f21, f22]
      clear f21 f22
      simp only [Oper.gives]
      go_simp
      exact (image_ok (HD.out.kept ((Touch.drew [] _).trans hRq (by simp)) (by simp))).mono fun e w' ⟨g, cap, he, hr, _, hg⟩ => ⟨_, he, hr, Touch.of_below hg⟩
    case o24 =>
      intro vals wq hRq hpq
      simp only [factsP, List.getD_cons_zero, List.getD_cons_succ] at hpq
      have f21 := hpq.1
      replace hpq := hpq.2
      clear hpq
      replace f21 : vals 21 = _ := f21
      simp only [List.getD_cons_zero, List.getD_cons_succ, canonP, f21]
      clear f21
      simp only [Oper.gives]
      go_simp
      exact ⟨is_mk _ _, (Touch.refl []) _⟩
    case o25 =>
      intro vals wq hRq hpq
      simp only [factsP, List.getD_cons_zero, List.getD_cons_succ] at hpq
      have f21 := hpq.1
      replace hpq := hpq.2
      have f23 := hpq.1
      replace hpq := hpq.2
      have f24 := hpq.1
      replace hpq := hpq.2
      clear hpq
      replace f21 : vals 21 = _ := f21
      replace f24 : vals 24 = _ := f24
      simp only [List.getD_cons_zero, List.getD_cons_succ, canonP, f21, f24]
      clear f21 f24
      simp only [Oper.gives]
      go_simp
      exact (same_yes f23 (HRM.out.kept ((Touch.drew [] _).trans hRq (by simp)) (by simp)) HL1.out HL2.out).mono fun e w' ⟨he, hg⟩ => ⟨_, he, is_mk _ _, Touch.of_below hg⟩
    case o26 =>
      intro vals wq hRq hpq
      simp only [factsP, List.getD_cons_zero, List.getD_cons_succ] at hpq
      have f21 := hpq.1
      replace hpq := hpq.2
      have f25 := hpq.1
      replace hpq := hpq.2
      clear hpq
      replace f21 : vals 21 = _ := f21
      replace f25 : vals 25 = _ := f25
      simp only [List.getD_cons_zero, List.getD_cons_succ, canonP, f21, f25]
      clear f21 f25
      simp only [Oper.gives]
      go_simp
      exact ⟨is_mk _ _, (Touch.refl []) _⟩
    case o27 =>
      intro vals wq hRq hpq
      simp only [factsP, List.getD_cons_zero, List.getD_cons_succ] at hpq
      have f21 := hpq.1
      replace hpq := hpq.2
      have f26 := hpq.1
      replace hpq := hpq.2
      clear hpq
      replace f21 : vals 21 = _ := f21
      replace f26 : vals 26 = _ := f26
      simp only [List.getD_cons_zero, List.getD_cons_succ, canonP, f21, f26]
      clear f21 f26
      simp only [Oper.gives]
      go_simp
      exact ⟨is_mk _ _, (Touch.refl []) _⟩
    case o28 =>
      intro vals wq hRq hpq
      simp only [factsP, List.getD_cons_zero, List.getD_cons_succ] at hpq
      have f25 := hpq.1
      replace hpq := hpq.2
      have f27 := hpq.1
      replace hpq := hpq.2
      clear hpq
      replace f25 : vals 25 = _ := f25
      replace f27 : vals 27 = _ := f27
      simp only [List.getD_cons_zero, List.getD_cons_succ, canonP, f25, f27]
      clear f25 f27
      simp only [Oper.gives]
      go_simp
      exact ⟨is_mk _ _, (Touch.refl []) _⟩
    case o29 =>
      intro vals wq hRq hpq
      simp only [factsP, List.getD_cons_zero, List.getD_cons_succ] at hpq
      have f28 := hpq.1
      replace hpq := hpq.2
      clear hpq
      replace f28 : vals 28 = _ := f28
      simp only [List.getD_cons_zero, List.getD_cons_succ, canonP, f28]
      clear f28
      simp only [Oper.gives]
      go_simp
      exact ⟨is_mk _ _, (Touch.refl []) _⟩
    case o30 =>
      intro vals wq hRq hpq
      simp only [factsP, List.getD_cons_zero, List.getD_cons_succ] at hpq
      have f28 := hpq.1
      replace hpq := hpq.2
      have f29 := hpq.1
      replace hpq := hpq.2
      clear hpq
      replace f28 : vals 28 = _ := f28
      replace f29 : vals 29 = _ := f29
      simp only [List.getD_cons_zero, List.getD_cons_succ, canonP, f28, f29]
      clear f28 f29
      simp only [Oper.gives]
      go_simp
      exact (safe_ok (HD.out.kept ((Touch.drew [] _).trans hRq (by simp)) (by simp))).mono fun e w' ⟨g, cap, he, hr, _, hg⟩ => ⟨_, he, hr, Touch.of_below hg⟩
    case o31 =>
      intro vals wq hRq hpq
      simp only [factsP, List.getD_cons_zero, List.getD_cons_succ] at hpq
      have f28 := hpq.1
      replace hpq := hpq.2
      clear hpq
      replace f28 : vals 28 = _ := f28
      simp only [List.getD_cons_zero, List.getD_cons_succ, canonP, f28]
      clear f28
      simp only [Oper.gives]
      go_simp
      exact ⟨is_mk _ _, (Touch.refl []) _⟩
    case o32 =>
      intro vals wq hRq hpq
      simp only [factsP, List.getD_cons_zero, List.getD_cons_succ] at hpq
      have f28 := hpq.1
      replace hpq := hpq.2
      have f31 := hpq.1
      replace hpq := hpq.2
      clear hpq
      replace f28 : vals 28 = _ := f28
      replace f31 : vals 31 = _ := f31
      simp only [List.getD_cons_zero, List.getD_cons_succ, canonP, f28, f31]
      clear f28 f31
      simp only [Oper.gives]
      go_simp
      exact ⟨is_mk _ _, (Touch.refl []) _⟩
    case o33 =>
      intro vals wq hRq hpq
      simp only [factsP, List.getD_cons_zero, List.getD_cons_succ] at hpq
      have f28 := hpq.1
      replace hpq := hpq.2
      have f32 := hpq.1
      replace hpq := hpq.2
      clear hpq
      replace f28 : vals 28 = _ := f28
      replace f32 : vals 32 = _ := f32
      simp only [List.getD_cons_zero, List.getD_cons_succ, canonP, f28, f32]
      clear f28 f32
      have hm := HMK.out
      simp only [Oper.gives]
      go_simp
      exact ⟨row_new HN2.out HMM.out (heap_alloc_last _ _), Touch.alloc _ _ _⟩
    case o34 =>
      intro vals wq hRq hpq
      simp only [factsP, List.getD_cons_zero, List.getD_cons_succ] at hpq
      have f28 := hpq.1
      replace hpq := hpq.2
      have f30 := hpq.1
      replace hpq := hpq.2
      have f33 := hpq.1
      replace hpq := hpq.2
      clear hpq
      replace f28 : vals 28 = _ := f28
      simp only [List.getD_cons_zero, List.getD_cons_succ, canonP, f28]
      clear f28
      simp only [Oper.gives]
      go_simp
      exact (same_yes f30 f33 HK1.out HK2.out).mono fun e w' ⟨he, hg⟩ => ⟨_, he, is_mk _ _, Touch.of_below hg⟩
    case o35 =>
      intro vals wq hRq hpq
      simp only [factsP, List.getD_cons_zero, List.getD_cons_succ] at hpq
      have f28 := hpq.1
      replace hpq := hpq.2
      have f34 := hpq.1
      replace hpq := hpq.2
      clear hpq
      replace f28 : vals 28 = _ := f28
      replace f34 : vals 34 = _ := f34
      simp only [List.getD_cons_zero, List.getD_cons_succ, canonP, f28, f34]
      clear f28 f34
      simp only [Oper.gives]
      go_simp
      exact ⟨is_mk _ _, (Touch.refl []) _⟩
    case o36 =>
      intro vals wq hRq hpq
      simp only [factsP, List.getD_cons_zero, List.getD_cons_succ] at hpq
      have f28 := hpq.1
      replace hpq := hpq.2
      have f35 := hpq.1
      replace hpq := hpq.2
      clear hpq
      replace f28 : vals 28 = _ := f28
      replace f35 : vals 35 = _ := f35
      simp only [List.getD_cons_zero, List.getD_cons_succ, canonP, f28, f35]
      clear f28 f35
      simp only [Oper.gives]
      go_simp
      exact ⟨is_mk _ _, (Touch.refl []) _⟩
    intro vals wz hRwz hfwz
    simp only [AllFacts] at hfwz
    have g0 := hfwz.1
    replace hfwz := hfwz.2
    have g1 := hfwz.1
    replace hfwz := hfwz.2
    have g2 := hfwz.1
    replace hfwz := hfwz.2
    have g3 := hfwz.1
    replace hfwz := hfwz.2
    have g4 := hfwz.1
    replace hfwz := hfwz.2
    have g5 := hfwz.1
    replace hfwz := hfwz.2
    have g6 := hfwz.1
    replace hfwz := hfwz.2
    have g7 := hfwz.1
    replace hfwz := hfwz.2
    have g8 := hfwz.1
    replace hfwz := hfwz.2
    have g9 := hfwz.1
    replace hfwz := hfwz.2
    have g10 := hfwz.1
    replace hfwz := hfwz.2
    have g11 := hfwz.1
    replace hfwz := hfwz.2
    have g12 := hfwz.1
    replace hfwz := hfwz.2
    have g13 := hfwz.1
    replace hfwz := hfwz.2
    have g14 := hfwz.1
    replace hfwz := hfwz.2
    have g15 := hfwz.1
    replace hfwz := hfwz.2
    have g16 := hfwz.1
    replace hfwz := hfwz.2
    have g17 := hfwz.1
    replace hfwz := hfwz.2
    have g18 := hfwz.1
    replace hfwz := hfwz.2
    have g19 := hfwz.1
    replace hfwz := hfwz.2
    have g20 := hfwz.1
    replace hfwz := hfwz.2
    have g21 := hfwz.1
    replace hfwz := hfwz.2
    have g22 := hfwz.1
    replace hfwz := hfwz.2
    have g23 := hfwz.1
    replace hfwz := hfwz.2
    have g24 := hfwz.1
    replace hfwz := hfwz.2
    have g25 := hfwz.1
    replace hfwz := hfwz.2
    have g26 := hfwz.1
    replace hfwz := hfwz.2
    have g27 := hfwz.1
    replace hfwz := hfwz.2
    have g28 := hfwz.1
    replace hfwz := hfwz.2
    have g29 := hfwz.1
    replace hfwz := hfwz.2
    have g30 := hfwz.1
    replace hfwz := hfwz.2
    have g31 := hfwz.1
    replace hfwz := hfwz.2
    have g32 := hfwz.1
    replace hfwz := hfwz.2
    have g33 := hfwz.1
    replace hfwz := hfwz.2
    have g34 := hfwz.1
    replace hfwz := hfwz.2
    have g35 := hfwz.1
    replace hfwz := hfwz.2
    have g36 := hfwz.1
    replace hfwz := hfwz.2
    clear hfwz
    replace g0 : vals 0 = _ := g0
    replace g1 : vals 1 = _ := g1
    replace g2 : vals 2 = _ := g2
    replace g3 : vals 3 = _ := g3
    replace g4 : vals 4 = _ := g4
    replace g5 : vals 5 = _ := g5
    replace g6 : vals 6 = _ := g6
    replace g7 : vals 7 = _ := g7
    replace g8 : vals 8 = _ := g8
    replace g9 : vals 9 = _ := g9
    replace g10 : vals 10 = _ := g10
    replace g11 : vals 11 = _ := g11
    replace g12 : vals 12 = _ := g12
    replace g13 : vals 13 = _ := g13
    replace g14 : vals 14 = _ := g14
    replace g15 : vals 15 = _ := g15
    replace g16 : vals 16 = _ := g16
    replace g17 : vals 17 = _ := g17
    replace g18 : vals 18 = _ := g18
    replace g19 : vals 19 = _ := g19
    replace g20 : vals 20 = _ := g20
    replace g21 : vals 21 = _ := g21
    replace g22 : vals 22 = _ := g22
    replace g24 : vals 24 = _ := g24
    replace g25 : vals 25 = _ := g25
    replace g26 : vals 26 = _ := g26
    replace g27 : vals 27 = _ := g27
    replace g28 : vals 28 = _ := g28
    replace g29 : vals 29 = _ := g29
    replace g31 : vals 31 = _ := g31
    replace g32 : vals 32 = _ := g32
    replace g34 : vals 34 = _ := g34
    replace g35 : vals 35 = _ := g35
    replace g36 : vals 36 = _ := g36
    simp only [canonP, Act.put, List.setIfInBounds_toArray, List.set_cons_succ, List.set_cons_zero, g0, g1, g2, g3, g4, g5, g6, g7, g8, g9, g10, g11, g12, g13, g14, g15, g16, g17, g18, g19, g20, g21, g22, g24, g25, g26, g27, g28, g29, g31, g32, g34, g35, g36]
    clear g0 g1 g2 g3 g4 g5 g6 g7 g8 g9 g10 g11 g12 g13 g14 g15 g16 g17 g18 g19 g20 g21 g22 g23 g24 g25 g26 g27 g28 g29 g30 g31 g32 g33 g34 g35 g36
    have HD4 := Lib.hid (HD.out.kept ((Touch.drew [] _).trans hRwz (by simp)) (by simp))
    have HRM4 := Lib.hid (HRM.out.kept ((Touch.drew [] _).trans hRwz (by simp)) (by simp))
    have HG4 := Lib.hid (HG.out.trans (((Touch.drew [] _).trans hRwz (by simp)).below (Nat.le_refl _) (by simp)))
    clear hRwz HD HRM HG HM HA HN HK1 HK2 HMM HMK HN2
    go_wp2_with fail
    go_loopw [9] (fun t9 wr => ∃ i : Nat, i ≤ N ∧ t9 = .int .i64 (i : Int) ∧ Hid (Touch [] wz wr)) (fun t9 _ => N - (intOf t9).toNat)
    case atStart => exact ⟨0, by omega, rfl, Lib.hid (Touch.refl _ _)⟩
    case round =>
      obtain ⟨i, hi, rfl, HT⟩ := hrel
      by_cases hlt : i < N
      · have hil : i < (putM N l).length := by rw [HPL.out]; exact hlt
        obtain ⟨x, hxx⟩ : ∃ x, x = (putM N l)[i]'hil := ⟨_, rfl⟩
        have hrd := read_ok (HD4.out.kept HT.out (by simp)) i hil (putD_dead N l)
        have hrm := HRM4.out.kept HT.out (by simp)
        have hx := hrm.len256 x (by rw [hxx]; exact List.getElem_mem hil)
        have HGX := Lib.hid (show ((putM N l).map bc)[i]? = some (bc x) by rw [hxx]; simp [hil])
        rw [show (putD N l).last[i]'hil = x from hxx.symm] at hrd
        have HRD := Lib.hid hrd
        have HRr := Lib.hid hrm
        have HXl := Lib.hid hx
        have HXs := Lib.hid (show (bc x).length = 256 by rw [bc_length]; exact hx)
        have HSz := Lib.hid (show (Try.prog.info? 32).map (·.size) = some (bc x).toArray.size by rw [List.size_toArray, HXs.out]; exact size32)
        have HSz2 := Lib.hid (show (Try.prog.info? 32).map (·.size) = some (bc x).length by rw [HXs.out]; exact size32)
        have HO := Lib.hid (show (bc x).toArray.all (·.oneCell') = true from all_oneCell_toArray (bc_one _))
        have HB0 := Lib.hid (show (0 : Int) ≤ (i : Int) by omega)
        have HB1 := Lib.hid (show (i : Int) < (N : Int) by omega)
        clear hrd hrm hx hxx hil
        have hz := zero32
        have HSo := Lib.hid (zero_size.trans (show 256 = (bc x).toArray.size by rw [List.size_toArray, HXs.out]))
        generalize (bc zeroB).toArray = Z at *
        go_wp2_with fail
        refine HRD.out.mono ?_
        intro e W4 hpost
        obtain ⟨he, hg4⟩ := hpost
        subst he
        have HT4 := Lib.hid (HT.out.trans (Touch.of_below (S := []) hg4) (by simp))
        have HRr4 := Lib.hid (HRr.out.kept (Touch.of_below (S := []) hg4) (by simp))
        clear hg4
        go_wp2_with (refine wpList_store_row rfl 32 _ _ rfl W4.heap.size (bc x).toArray rfl rfl 32 Z (heap_alloc_last _ _) HSz.out HSo.out HO.out ?_)
        have ht5 : Touch [] W4 ((W4.alloc (.cells Z 32)).setRow W4.heap.size (bc x).toArray) := Touch.of_below (below_setRow ((Below.refl _ _).alloc (Nat.le_refl _) _) (Nat.le_refl _) _)
        have HXH := Lib.hid (show ((W4.alloc (.cells Z 32)).setRow W4.heap.size (bc x).toArray).drew.heap[W4.heap.size]? = some (.cells (bc x).toArray 32 (0, 0)) from setRow_heap _ _ _ _ _ _ (heap_alloc_last _ _))
        have HBX := Lib.hid (show W4.heap.size < ((W4.alloc (.cells Z 32)).setRow W4.heap.size (bc x).toArray).drew.heap.size by simp)
        have HT5 := Lib.hid (HT4.out.trans ht5 (by simp))
        have HRb := Lib.hid ((HRr4.out.kept ht5 (by simp)).kept (Touch.drew [] _) (by simp))
        clear ht5
        refine wp_region_facts (by kernel_rfl) [[], [(0, some 72)], [(1, some 73)], [(2, some 74)], [(2, some 74)], [(2, some 74)], [(2, some 74), (4, some 76), (5, some 77)], [(2, some 74), (6, some 78)], [(2, some 74), (3, some 75), (7, some 79)], [(2, some 74), (8, some 80)]] [(0, some 72), (1, some 73), (2, some 74), (3, some 75), (4, some 76), (5, some 77), (6, some 78), (7, some 79), (8, some 80), (9, some 81)] (by kernel_rfl) (by kernel_rfl) (by kernel_rfl) (Touch []) (Touch.refl []) (fun _ _ _ h h' => h.trans h' (fun i hi => .inl hi)) [Is (Value.int .i64 0), Is (Value.bool false), Is (Value.bool false), Is (Value.agg (bc x).toArray), Is (Value.slice (some ⟨gm, 0, none⟩) N cm), Is (Value.int .i64 (i : Int)), Is (Value.pointer (some ⟨gm, i * 256, none⟩)), Is (Value.agg (bc x).toArray), Is (Value.bool false), Is (Value.bool false)] rfl ⟨is_stab _ _, is_stab _ _, is_stab _ _, is_stab _ _, is_stab _ _, is_stab _ _, is_stab _ _, is_stab _ _, is_stab _ _, is_stab _ _, trivial⟩ ⟨?o0, ?o1, ?o2, ?o3, ?o4, ?o5, ?o6, ?o7, ?o8, ?o9, trivial⟩ ?_
        case o0 =>
          intro vals wq hRq hpq
          simp only [List.getD_cons_zero, List.getD_cons_succ, canonP]
          simp only [Oper.gives]
          go_simp
          exact ⟨is_mk _ _, (Touch.refl []) _⟩
        case o1 =>
          intro vals wq hRq hpq
          simp only [factsP, List.getD_cons_zero, List.getD_cons_succ] at hpq
          have f0 := hpq.1
          replace hpq := hpq.2
          clear hpq
          replace f0 : vals 0 = _ := f0
          simp only [List.getD_cons_zero, List.getD_cons_succ, canonP, f0]
          clear f0
          simp only [Oper.gives]
          go_simp
          exact ⟨is_mk _ _, (Touch.refl []) _⟩
        case o2 =>
          intro vals wq hRq hpq
          simp only [factsP, List.getD_cons_zero, List.getD_cons_succ] at hpq
          have f1 := hpq.1
          replace hpq := hpq.2
          clear hpq
          replace f1 : vals 1 = _ := f1
          simp only [List.getD_cons_zero, List.getD_cons_succ, canonP, f1]
          clear f1
          simp only [Oper.gives]
          go_simp
          exact ⟨is_mk _ _, (Touch.refl []) _⟩
        case o3 =>
          intro vals wq hRq hpq
          simp only [factsP, List.getD_cons_zero, List.getD_cons_succ] at hpq
          have f2 := hpq.1
          replace hpq := hpq.2
          clear hpq
          replace f2 : vals 2 = _ := f2
          simp only [List.getD_cons_zero, List.getD_cons_succ, canonP, f2]
          clear f2
          rw [if_pos (by rfl)]
          exact gives_load_row 32 _ rfl W4.heap.size rfl 32 (bc x).toArray (0, 0) _ ((hRq.block _ HBX.out (by simp)).trans HXH.out) Try.underlying32 rfl HSz.out ⟨is_mk _ _, Touch.refl _ _⟩
        case o4 =>
          intro vals wq hRq hpq
          simp only [factsP, List.getD_cons_zero, List.getD_cons_succ] at hpq
          have f2 := hpq.1
          replace hpq := hpq.2
          clear hpq
          replace f2 : vals 2 = _ := f2
          simp only [List.getD_cons_zero, List.getD_cons_succ, canonP, f2]
          clear f2
          simp only [Oper.gives]
          go_simp
          exact ⟨is_mk _ _, (Touch.refl []) _⟩
        case o5 =>
          intro vals wq hRq hpq
          simp only [factsP, List.getD_cons_zero, List.getD_cons_succ] at hpq
          have f2 := hpq.1
          replace hpq := hpq.2
          clear hpq
          replace f2 : vals 2 = _ := f2
          simp only [List.getD_cons_zero, List.getD_cons_succ, canonP, f2]
          clear f2
          simp only [Oper.gives]
          go_simp
          exact ⟨is_mk _ _, (Touch.refl []) _⟩
        case o6 =>
          intro vals wq hRq hpq
          simp only [factsP, List.getD_cons_zero, List.getD_cons_succ] at hpq
          have f2 := hpq.1
          replace hpq := hpq.2
          have f4 := hpq.1
          replace hpq := hpq.2
          have f5 := hpq.1
          replace hpq := hpq.2
          clear hpq
          replace f2 : vals 2 = _ := f2
          replace f4 : vals 4 = _ := f4
          replace f5 : vals 5 = _ := f5
          simp only [List.getD_cons_zero, List.getD_cons_succ, canonP, f2, f4, f5]
          clear f2 f4 f5
          have b0 := HB0.out
          have b1 := HB1.out
          simp only [Oper.gives]
          go_simp
          exact ⟨is_mk _ _, Touch.refl _ _⟩
        case o7 =>
          intro vals wq hRq hpq
          simp only [factsP, List.getD_cons_zero, List.getD_cons_succ] at hpq
          have f2 := hpq.1
          replace hpq := hpq.2
          have f6 := hpq.1
          replace hpq := hpq.2
          clear hpq
          replace f2 : vals 2 = _ := f2
          replace f6 : vals 6 = _ := f6
          simp only [List.getD_cons_zero, List.getD_cons_succ, canonP, f2, f6]
          clear f2 f6
          have hr := HRb.out.kept hRq (by simp)
          rw [if_pos (by rfl)]
          exact gives_load_mid 32 _ rfl gm (i * 256) rfl (bc x) _ (hr.range HGX.out) Try.underlying32 rfl HSz2.out ⟨is_mk _ _, Touch.refl _ _⟩
        case o8 =>
          intro vals wq hRq hpq
          simp only [factsP, List.getD_cons_zero, List.getD_cons_succ] at hpq
          have f2 := hpq.1
          replace hpq := hpq.2
          have f3 := hpq.1
          replace hpq := hpq.2
          have f7 := hpq.1
          replace hpq := hpq.2
          clear hpq
          replace f2 : vals 2 = _ := f2
          replace f3 : vals 3 = _ := f3
          replace f7 : vals 7 = _ := f7
          simp only [List.getD_cons_zero, List.getD_cons_succ, canonP, f2, f3, f7]
          clear f2 f3 f7
          rw [if_pos (by rfl)]
          exact gives_binOp .neq 32 _ _ 32 rfl _ _ rfl rfl (guard32n _ _ _ _ wq) (neq32 x HXl.out wq) ⟨is_mk _ _, Touch.refl _ _⟩
        case o9 =>
          intro vals wq hRq hpq
          simp only [factsP, List.getD_cons_zero, List.getD_cons_succ] at hpq
          have f2 := hpq.1
          replace hpq := hpq.2
          have f8 := hpq.1
          replace hpq := hpq.2
          clear hpq
          replace f2 : vals 2 = _ := f2
          replace f8 : vals 8 = _ := f8
          simp only [List.getD_cons_zero, List.getD_cons_succ, canonP, f2, f8]
          clear f2 f8
          simp only [Oper.gives]
          go_simp
          exact ⟨is_mk _ _, (Touch.refl []) _⟩
        intro vals wz hRwz hfwz
        simp only [AllFacts] at hfwz
        have g0 := hfwz.1
        replace hfwz := hfwz.2
        have g1 := hfwz.1
        replace hfwz := hfwz.2
        have g2 := hfwz.1
        replace hfwz := hfwz.2
        have g3 := hfwz.1
        replace hfwz := hfwz.2
        have g4 := hfwz.1
        replace hfwz := hfwz.2
        have g5 := hfwz.1
        replace hfwz := hfwz.2
        have g6 := hfwz.1
        replace hfwz := hfwz.2
        have g7 := hfwz.1
        replace hfwz := hfwz.2
        have g8 := hfwz.1
        replace hfwz := hfwz.2
        have g9 := hfwz.1
        replace hfwz := hfwz.2
        clear hfwz
        replace g0 : vals 0 = _ := g0
        replace g1 : vals 1 = _ := g1
        replace g2 : vals 2 = _ := g2
        replace g3 : vals 3 = _ := g3
        replace g4 : vals 4 = _ := g4
        replace g5 : vals 5 = _ := g5
        replace g6 : vals 6 = _ := g6
        replace g7 : vals 7 = _ := g7
        replace g8 : vals 8 = _ := g8
        replace g9 : vals 9 = _ := g9
        simp only [canonP, Act.put, List.setIfInBounds_toArray, List.set_cons_succ, List.set_cons_zero, g0, g1, g2, g3, g4, g5, g6, g7, g8, g9]
        clear g0 g1 g2 g3 g4 g5 g6 g7 g8 g9
        have HT6 := Lib.hid ((HT5.out.trans (Touch.drew [] _) (by simp)).trans hRwz (by simp))
        clear hRwz
        go_wp2_with fail
        go_roundw
        case rel => exact ⟨i + 1, by omega, by go_num, HT6⟩
        case measure => simp [intOf]; omega
      · go_wp2_with fail
        go_ret
        exact ⟨rfl, HG4.out.trans (HT.out.below (Nat.le_refl _) (by simp))⟩
#print axioms writes_walk
end Go.Proofs.Ytkcbjhdklenlbaa
