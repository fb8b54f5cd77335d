/- The law GeoAll: the walk. -/
import Derived.Test.YtgakdaohhbdjoaaG22
set_option linter.unusedVariables false
set_option linter.unusedSimpArgs false
namespace Go.Proofs.Ytgakdaohhbdjoaa
open Go.RowKit Go.Shelf

set_option maxRecDepth 100000 in
set_option maxHeartbeats 4000000 in
theorem all_may (gr sz ni jr : Nat) (hM : May gr sz ni jr) (w : World) :
    Calls Try.prog 5 #[gv gr sz ni jr] w fun e w' => e = .returned (.bool true) ∧ Below w.heap.size w w' := by
  have HM := Lib.hid hM
  have HE1 : nBlocks gr sz ni jr = 2 + jr + gr * sz := if_pos hM
  have HE2 : nInodes gr sz ni jr = gr * ni := if_pos hM
  have HE3 : nData gr sz ni jr = sz - 2 - ni / 4 := if_pos hM
  obtain ⟨h1, h2, h3, h4, h5, h6, h7, h8, h9, h10, h11⟩ := hM
  have hb := mul_bd h1 h2 h3 h4
  have hb2 := mul_gi h1 h2 h5 h6
  obtain ⟨N, hN⟩ : ∃ N : Nat, N = 2 + jr + gr * sz := ⟨_, rfl⟩
  have hNi : (N : Int) = 2 + (jr : Int) + (gr : Int) * (sz : Int) := by rw [hN]; simp
  obtain ⟨s1, hs1⟩ : ∃ s1, s1 = 2 + (jr : Int) := ⟨_, rfl⟩
  obtain ⟨s2, hs2⟩ : ∃ s2, s2 = (gr : Int) * (sz : Int) := ⟨_, rfl⟩
  obtain ⟨NI, hNI⟩ : ∃ NI, NI = (gr : Int) * (ni : Int) := ⟨_, rfl⟩
  obtain ⟨ND, hND⟩ : ∃ ND, ND = (sz : Int) - 2 - (ni : Int) / 4 := ⟨_, rfl⟩
  have E1 := Lib.hid (show IntKind.i64.wrap (2 + (jr : Int)) = s1 by rw [hs1]; exact IntWalk.i64_in _ (by omega))
  have E2 := Lib.hid (show IntKind.i64.wrap ((gr : Int) * (sz : Int)) = s2 by rw [hs2]; exact IntWalk.i64_in _ (by omega))
  have E3 := Lib.hid (show IntKind.i64.wrap (s1 + s2) = (N : Int) by rw [hNi, hs1, hs2]; exact IntWalk.i64_in _ (by omega))
  have E4 := Lib.hid (show IntKind.i64.wrap ((gr : Int) * (ni : Int)) = NI by rw [hNI]; exact IntWalk.i64_in _ (by omega))
  have D1 := Lib.hid (show decide ((N : Int) < 2) = false by simp; omega)
  have D2 := Lib.hid (show decide (2048 < (N : Int)) = false by simp; omega)
  have D3 := Lib.hid (show decide (ND < 1) = false by simp; omega)
  have hN2 : 2 ≤ N ∧ N ≤ 2048 := by omega
  have HBL := Lib.hid (show ∀ wq, Calls Try.prog 22 #[gv gr sz ni jr] wq fun e w' => e = .returned (.int .i64 (N : Int)) ∧ Grow wq w' by
    intro wq; have := blocks_any gr sz ni jr wq; rw [HE1, ← hNi] at this; exact this)
  have HNL := Lib.hid (show ∀ wq, Calls Try.prog 24 #[gv gr sz ni jr] wq fun e w' => e = .returned (.int .i64 NI) ∧ Grow wq w' by
    intro wq; have := inodes_any gr sz ni jr wq; rw [HE2, ← hNI] at this; exact this)
  have HDL := Lib.hid (show ∀ wq, Calls Try.prog 26 #[gv gr sz ni jr] wq fun e w' => e = .returned (.int .i64 ND) ∧ Grow wq w' by
    intro wq; have := data_any gr sz ni jr wq; rw [HE3, ← hND] at this; exact this)
  have HNN := Lib.hid hN
  have HNI := Lib.hid hNI
  have HND := Lib.hid hND
  clear HE1 HE2 HE3 h1 h2 h3 h4 h5 h6 h7 h8 h9 h10 h11 hb hb2 hs1 hs2 hN hNI hNi hND
  go_enter Try.func5, Try.ntmps5
  go_wp2_with fail
  refine (awake_ok _).mono ?_
  rintro e w1 ⟨rfl, hg⟩
  have HG1 := Lib.hid hg
  clear hg
  obtain ⟨c0, c1, c2, c3⟩ := box_at HG1.out
  go_wp2_with fail
  refine (may_yes gr sz ni jr HM.out _).mono ?_
  rintro e w2 ⟨rfl, hg⟩
  have HG2 := Lib.hid (HG1.out.trans hg)
  clear hg c0 c1 c2 c3
  obtain ⟨c0, c1, c2, c3⟩ := box_at HG2.out
  go_wp2_with fail
  refine (HBL.out _).mono ?_
  rintro e w3 ⟨rfl, hg⟩
  have HG3 := Lib.hid (HG2.out.trans hg)
  clear hg c0 c1 c2 c3
  go_wp2_with fail
  refine wp_region_facts (by kernel_rfl) [[], [(0, some 35)], [(1, some 36)], [(2, some 37)], [(2, some 37), (3, some 38)], [(2, some 37), (4, some 39)], [(2, some 37), (5, some 40)], [(6, some 41)], [(6, some 41)], [(6, some 41), (8, some 43)], [(6, some 41), (9, some 44)], [(6, some 41)], [(6, some 41), (11, some 46)], [(6, some 41)], [(6, some 41), (13, some 48)], [(6, some 41), (12, some 47), (14, some 49)], [(6, some 41), (10, some 45), (15, some 50)], [(6, some 41), (7, some 42), (16, some 51)], [(6, some 41), (17, some 52)], [(6, some 41), (18, some 53)], [(19, some 54)], [(19, some 54), (20, some 55)], [(19, some 54), (21, some 56)], [(19, some 54), (22, some 57)], [(21, some 56), (23, some 58)], [(24, some 59)], [(24, some 59), (25, some 60)], [(24, some 59)], [(24, some 59), (27, some 62)], [(24, some 59)], [(24, some 59), (29, some 64)], [(24, some 59), (28, some 63), (30, some 65)], [(24, some 59), (26, some 61), (31, some 66)], [(24, some 59), (32, some 67)]] [(0, some 35), (1, some 36), (2, some 37), (3, some 38), (4, some 39), (5, some 40), (6, some 41), (7, some 42), (8, some 43), (9, some 44), (10, some 45), (11, some 46), (12, some 47), (13, some 48), (14, some 49), (15, some 50), (16, some 51), (17, some 52), (18, some 53), (19, some 54), (20, some 55), (21, some 56), (22, some 57), (23, some 58), (24, some 59), (25, some 60), (26, some 61), (27, some 62), (28, some 63), (29, some 64), (30, some 65), (31, some 66), (32, some 67), (33, some 68)] (by kernel_rfl) (by kernel_rfl) (by kernel_rfl) (Grow) Grow.refl (fun _ _ _ h h' => Grow.trans h h') [Is (Value.int .i64 (N : Int)), Is (Value.bool false), Is (Value.bool false), Is (Value.int .i64 (N : Int)), Is (Value.bool false), Is (Value.bool false), Is (Value.bool false), Is (Value.int .i64 (N : Int)), Is (Value.pointer (some ⟨w.heap.size, 3, none⟩)), Is (Value.int .i64 (jr : Int)), Is (Value.int .i64 s1), Is (Value.pointer (some ⟨w.heap.size, 0, none⟩)), Is (Value.int .i64 (gr : Int)), Is (Value.pointer (some ⟨w.heap.size, 1, none⟩)), Is (Value.int .i64 (sz : Int)), Is (Value.int .i64 s2), Is (Value.int .i64 (N : Int)), Is (Value.bool false), Is (Value.bool false), Is (Value.bool false), Is (Value.agg #[Value.int .i64 (gr : Int), Value.int .i64 (sz : Int), Value.int .i64 (ni : Int), Value.int .i64 (jr : Int)]), Is (Value.int .i64 ND), Is (Value.bool false), Is (Value.bool false), Is (Value.bool false), Is (Value.agg #[Value.int .i64 (gr : Int), Value.int .i64 (sz : Int), Value.int .i64 (ni : Int), Value.int .i64 (jr : Int)]), Is (Value.int .i64 NI), Is (Value.pointer (some ⟨w.heap.size, 0, none⟩)), Is (Value.int .i64 (gr : Int)), Is (Value.pointer (some ⟨w.heap.size, 2, none⟩)), Is (Value.int .i64 (ni : Int)), Is (Value.int .i64 NI), Is (Value.bool false), Is (Value.bool false)] rfl ⟨is_stab _ _, is_stab _ _, is_stab _ _, is_stab _ _, is_stab _ _, is_stab _ _, is_stab _ _, is_stab _ _, is_stab _ _, is_stab _ _, is_stab _ _, is_stab _ _, is_stab _ _, is_stab _ _, is_stab _ _, is_stab _ _, is_stab _ _, is_stab _ _, is_stab _ _, is_stab _ _, is_stab _ _, is_stab _ _, is_stab _ _, is_stab _ _, is_stab _ _, is_stab _ _, is_stab _ _, is_stab _ _, is_stab _ _, is_stab _ _, is_stab _ _, is_stab _ _, is_stab _ _, is_stab _ _, trivial⟩ ⟨?o0, ?o1, ?o2, ?o3, ?o4, ?o5, ?o6, ?o7, ?o8, ?o9, ?o10, ?o11, ?o12, ?o13, ?o14, ?o15, ?o16, ?o17, ?o18, ?o19, ?o20, ?o21, ?o22, ?o23, ?o24, ?o25, ?o26, ?o27, ?o28, ?o29, ?o30, ?o31, ?o32, ?o33, trivial⟩ ?_
  case o0 =>
    intro vals wq hRq hpq
    simp only [List.getD_cons_zero, List.getD_cons_succ, canonP]
    simp only [Oper.gives]
    go_simp
    exact ⟨is_mk _ _, Grow.refl _⟩
  case o1 =>
    intro vals wq hRq hpq
    simp only [factsP, List.getD_cons_zero, List.getD_cons_succ] at hpq
    have f0 := hpq.1
    replace hpq := hpq.2
    clear hpq
    replace f0 : vals 0 = _ := f0
    simp only [List.getD_cons_zero, List.getD_cons_succ, canonP, f0]
    clear f0
    have hh0 := D1.out
    simp only [Oper.gives]
    go_simp
    exact ⟨is_mk _ _, Grow.refl _⟩
  case o2 =>
    intro vals wq hRq hpq
    simp only [factsP, List.getD_cons_zero, List.getD_cons_succ] at hpq
    have f1 := hpq.1
    replace hpq := hpq.2
    clear hpq
    replace f1 : vals 1 = _ := f1
    simp only [List.getD_cons_zero, List.getD_cons_succ, canonP, f1]
    clear f1
    simp only [Oper.gives]
    go_simp
    exact ⟨is_mk _ _, Grow.refl _⟩
  case o3 =>
    intro vals wq hRq hpq
    simp only [factsP, List.getD_cons_zero, List.getD_cons_succ] at hpq
    have f2 := hpq.1
    replace hpq := hpq.2
    clear hpq
    replace f2 : vals 2 = _ := f2
    simp only [List.getD_cons_zero, List.getD_cons_succ, canonP, f2]
    clear f2
    simp only [Oper.gives]
    go_simp
    exact ⟨is_mk _ _, Grow.refl _⟩
  case o4 =>
    intro vals wq hRq hpq
    simp only [factsP, List.getD_cons_zero, List.getD_cons_succ] at hpq
    have f2 := hpq.1
    replace hpq := hpq.2
    have f3 := hpq.1
    replace hpq := hpq.2
    clear hpq
    replace f2 : vals 2 = _ := f2
    replace f3 : vals 3 = _ := f3
    simp only [List.getD_cons_zero, List.getD_cons_succ, canonP, f2, f3]
    clear f2 f3
    have hh0 := D2.out
    simp only [Oper.gives]
    go_simp
    exact ⟨is_mk _ _, Grow.refl _⟩
  case o5 =>
    intro vals wq hRq hpq
    simp only [factsP, List.getD_cons_zero, List.getD_cons_succ] at hpq
    have f2 := hpq.1
    replace hpq := hpq.2
    have f4 := hpq.1
    replace hpq := hpq.2
    clear hpq
    replace f2 : vals 2 = _ := f2
    replace f4 : vals 4 = _ := f4
    simp only [List.getD_cons_zero, List.getD_cons_succ, canonP, f2, f4]
    clear f2 f4
    simp only [Oper.gives]
    go_simp
    exact ⟨is_mk _ _, Grow.refl _⟩
  case o6 =>
    intro vals wq hRq hpq
    simp only [factsP, List.getD_cons_zero, List.getD_cons_succ] at hpq
    have f2 := hpq.1
    replace hpq := hpq.2
    have f5 := hpq.1
    replace hpq := hpq.2
    clear hpq
    replace f2 : vals 2 = _ := f2
    replace f5 : vals 5 = _ := f5
    simp only [List.getD_cons_zero, List.getD_cons_succ, canonP, f2, f5]
    clear f2 f5
    simp only [Oper.gives]
    go_simp
    exact ⟨is_mk _ _, Grow.refl _⟩
  case o7 =>
    intro vals wq hRq hpq
    simp only [factsP, List.getD_cons_zero, List.getD_cons_succ] at hpq
    have f6 := hpq.1
    replace hpq := hpq.2
    clear hpq
    replace f6 : vals 6 = _ := f6
    simp only [List.getD_cons_zero, List.getD_cons_succ, canonP, f6]
    clear f6
    simp only [Oper.gives]
    go_simp
    exact ⟨is_mk _ _, Grow.refl _⟩
  case o8 =>
    intro vals wq hRq hpq
    simp only [factsP, List.getD_cons_zero, List.getD_cons_succ] at hpq
    have f6 := hpq.1
    replace hpq := hpq.2
    clear hpq
    replace f6 : vals 6 = _ := f6
    simp only [List.getD_cons_zero, List.getD_cons_succ, canonP, f6]
    clear f6
    simp only [Oper.gives]
    go_simp
    exact ⟨is_mk _ _, Grow.refl _⟩
  case o9 =>
    intro vals wq hRq hpq
    simp only [factsP, List.getD_cons_zero, List.getD_cons_succ] at hpq
    have f6 := hpq.1
    replace hpq := hpq.2
    have f8 := hpq.1
    replace hpq := hpq.2
    clear hpq
    replace f6 : vals 6 = _ := f6
    replace f8 : vals 8 = _ := f8
    simp only [List.getD_cons_zero, List.getD_cons_succ, canonP, f6, f8]
    clear f6 f8
    have hb4 := HG3.out.trans ((Grow.drew _).trans hRq)
    have c0 := (box_at hb4).1
    have c1 := (box_at hb4).2.1
    have c2 := (box_at hb4).2.2.1
    have c3 := (box_at hb4).2.2.2
    simp only [Oper.gives]
    go_simp
    exact ⟨is_mk _ _, Grow.refl _⟩
  case o10 =>
    intro vals wq hRq hpq
    simp only [factsP, List.getD_cons_zero, List.getD_cons_succ] at hpq
    have f6 := hpq.1
    replace hpq := hpq.2
    have f9 := hpq.1
    replace hpq := hpq.2
    clear hpq
    replace f6 : vals 6 = _ := f6
    replace f9 : vals 9 = _ := f9
    simp only [List.getD_cons_zero, List.getD_cons_succ, canonP, f6, f9]
    clear f6 f9
    have hh0 := E1.out
    simp only [Oper.gives]
    go_simp
    exact ⟨is_mk _ _, Grow.refl _⟩
  case o11 =>
    intro vals wq hRq hpq
    simp only [factsP, List.getD_cons_zero, List.getD_cons_succ] at hpq
    have f6 := hpq.1
    replace hpq := hpq.2
    clear hpq
    replace f6 : vals 6 = _ := f6
    simp only [List.getD_cons_zero, List.getD_cons_succ, canonP, f6]
    clear f6
    simp only [Oper.gives]
    go_simp
    exact ⟨is_mk _ _, Grow.refl _⟩
  case o12 =>
    intro vals wq hRq hpq
    simp only [factsP, List.getD_cons_zero, List.getD_cons_succ] at hpq
    have f6 := hpq.1
    replace hpq := hpq.2
    have f11 := hpq.1
    replace hpq := hpq.2
    clear hpq
    replace f6 : vals 6 = _ := f6
    replace f11 : vals 11 = _ := f11
    simp only [List.getD_cons_zero, List.getD_cons_succ, canonP, f6, f11]
    clear f6 f11
    have hb4 := HG3.out.trans ((Grow.drew _).trans hRq)
    have c0 := (box_at hb4).1
    have c1 := (box_at hb4).2.1
    have c2 := (box_at hb4).2.2.1
    have c3 := (box_at hb4).2.2.2
    simp only [Oper.gives]
    go_simp
    exact ⟨is_mk _ _, Grow.refl _⟩
  case o13 =>
    intro vals wq hRq hpq
    simp only [factsP, List.getD_cons_zero, List.getD_cons_succ] at hpq
    have f6 := hpq.1
    replace hpq := hpq.2
    clear hpq
    replace f6 : vals 6 = _ := f6
    simp only [List.getD_cons_zero, List.getD_cons_succ, canonP, f6]
    clear f6
    simp only [Oper.gives]
    go_simp
    exact ⟨is_mk _ _, Grow.refl _⟩
  case o14 =>
    intro vals wq hRq hpq
    simp only [factsP, List.getD_cons_zero, List.getD_cons_succ] at hpq
    have f6 := hpq.1
    replace hpq := hpq.2
    have f13 := hpq.1
    replace hpq := hpq.2
    clear hpq
    replace f6 : vals 6 = _ := f6
    replace f13 : vals 13 = _ := f13
    simp only [List.getD_cons_zero, List.getD_cons_succ, canonP, f6, f13]
    clear f6 f13
    have hb4 := HG3.out.trans ((Grow.drew _).trans hRq)
    have c0 := (box_at hb4).1
    have c1 := (box_at hb4).2.1
    have c2 := (box_at hb4).2.2.1
    have c3 := (box_at hb4).2.2.2
    simp only [Oper.gives]
    go_simp
    exact ⟨is_mk _ _, Grow.refl _⟩
  case o15 =>
    intro vals wq hRq hpq
    simp only [factsP, List.getD_cons_zero, List.getD_cons_succ] at hpq
    have f6 := hpq.1
    replace hpq := hpq.2
    have f12 := hpq.1
    replace hpq := hpq.2
    have f14 := hpq.1
    replace hpq := hpq.2
    clear hpq
    replace f6 : vals 6 = _ := f6
    replace f12 : vals 12 = _ := f12
    replace f14 : vals 14 = _ := f14
    simp only [List.getD_cons_zero, List.getD_cons_succ, canonP, f6, f12, f14]
    clear f6 f12 f14
    have hh0 := E2.out
    simp only [Oper.gives]
    go_simp
    exact ⟨is_mk _ _, Grow.refl _⟩
  case o16 =>
    intro vals wq hRq hpq
    simp only [factsP, List.getD_cons_zero, List.getD_cons_succ] at hpq
    have f6 := hpq.1
    replace hpq := hpq.2
    have f10 := hpq.1
    replace hpq := hpq.2
    have f15 := hpq.1
    replace hpq := hpq.2
    clear hpq
    replace f6 : vals 6 = _ := f6
    replace f10 : vals 10 = _ := f10
    replace f15 : vals 15 = _ := f15
    simp only [List.getD_cons_zero, List.getD_cons_succ, canonP, f6, f10, f15]
    clear f6 f10 f15
    have hh0 := E3.out
    simp only [Oper.gives]
    go_simp
    exact ⟨is_mk _ _, Grow.refl _⟩
  case o17 =>
    intro vals wq hRq hpq
    simp only [factsP, List.getD_cons_zero, List.getD_cons_succ] at hpq
    have f6 := hpq.1
    replace hpq := hpq.2
    have f7 := hpq.1
    replace hpq := hpq.2
    have f16 := hpq.1
    replace hpq := hpq.2
    clear hpq
    replace f6 : vals 6 = _ := f6
    replace f7 : vals 7 = _ := f7
    replace f16 : vals 16 = _ := f16
    simp only [List.getD_cons_zero, List.getD_cons_succ, canonP, f6, f7, f16]
    clear f6 f7 f16
    simp only [Oper.gives]
    go_simp
    exact ⟨is_mk _ _, Grow.refl _⟩
  case o18 =>
    intro vals wq hRq hpq
    simp only [factsP, List.getD_cons_zero, List.getD_cons_succ] at hpq
    have f6 := hpq.1
    replace hpq := hpq.2
    have f17 := hpq.1
    replace hpq := hpq.2
    clear hpq
    replace f6 : vals 6 = _ := f6
    replace f17 : vals 17 = _ := f17
    simp only [List.getD_cons_zero, List.getD_cons_succ, canonP, f6, f17]
    clear f6 f17
    simp only [Oper.gives]
    go_simp
    exact ⟨is_mk _ _, Grow.refl _⟩
  case o19 =>
    intro vals wq hRq hpq
    simp only [factsP, List.getD_cons_zero, List.getD_cons_succ] at hpq
    have f6 := hpq.1
    replace hpq := hpq.2
    have f18 := hpq.1
    replace hpq := hpq.2
    clear hpq
    replace f6 : vals 6 = _ := f6
    replace f18 : vals 18 = _ := f18
    simp only [List.getD_cons_zero, List.getD_cons_succ, canonP, f6, f18]
    clear f6 f18
    simp only [Oper.gives]
    go_simp
    exact ⟨is_mk _ _, Grow.refl _⟩
  case o20 =>
    intro vals wq hRq hpq
    simp only [factsP, List.getD_cons_zero, List.getD_cons_succ] at hpq
    have f19 := hpq.1
    replace hpq := hpq.2
    clear hpq
    replace f19 : vals 19 = _ := f19
    simp only [List.getD_cons_zero, List.getD_cons_succ, canonP, f19]
    clear f19
    have hb4 := HG3.out.trans ((Grow.drew _).trans hRq)
    have c0 := (box_at hb4).1
    have c1 := (box_at hb4).2.1
    have c2 := (box_at hb4).2.2.1
    have c3 := (box_at hb4).2.2.2
    simp only [Oper.gives]
    go_simp
    exact ⟨is_mk _ _, Grow.refl _⟩
  case o21 =>
    intro vals wq hRq hpq
    simp only [factsP, List.getD_cons_zero, List.getD_cons_succ] at hpq
    have f19 := hpq.1
    replace hpq := hpq.2
    have f20 := hpq.1
    replace hpq := hpq.2
    clear hpq
    replace f19 : vals 19 = _ := f19
    replace f20 : vals 20 = _ := f20
    simp only [List.getD_cons_zero, List.getD_cons_succ, canonP, f19, f20]
    clear f19 f20
    simp only [Oper.gives]
    go_simp
    exact (HDL.out wq).mono fun e w' ⟨he, hg⟩ => ⟨_, he, is_mk _ _, hg⟩
  case o22 =>
    intro vals wq hRq hpq
    simp only [factsP, List.getD_cons_zero, List.getD_cons_succ] at hpq
    have f19 := hpq.1
    replace hpq := hpq.2
    have f21 := hpq.1
    replace hpq := hpq.2
    clear hpq
    replace f19 : vals 19 = _ := f19
    replace f21 : vals 21 = _ := f21
    simp only [List.getD_cons_zero, List.getD_cons_succ, canonP, f19, f21]
    clear f19 f21
    have hh0 := D3.out
    simp only [Oper.gives]
    go_simp
    exact ⟨is_mk _ _, Grow.refl _⟩
  case o23 =>
    intro vals wq hRq hpq
    simp only [factsP, List.getD_cons_zero, List.getD_cons_succ] at hpq
    have f19 := hpq.1
    replace hpq := hpq.2
    have f22 := hpq.1
    replace hpq := hpq.2
    clear hpq
    replace f19 : vals 19 = _ := f19
    replace f22 : vals 22 = _ := f22
    simp only [List.getD_cons_zero, List.getD_cons_succ, canonP, f19, f22]
    clear f19 f22
    simp only [Oper.gives]
    go_simp
    exact ⟨is_mk _ _, Grow.refl _⟩
  case o24 =>
    intro vals wq hRq hpq
    simp only [factsP, List.getD_cons_zero, List.getD_cons_succ] at hpq
    have f21 := hpq.1
    replace hpq := hpq.2
    have f23 := hpq.1
    replace hpq := hpq.2
    clear hpq
    replace f21 : vals 21 = _ := f21
    replace f23 : vals 23 = _ := f23
    simp only [List.getD_cons_zero, List.getD_cons_succ, canonP, f21, f23]
    clear f21 f23
    simp only [Oper.gives]
    go_simp
    exact ⟨is_mk _ _, Grow.refl _⟩
  case o25 =>
    intro vals wq hRq hpq
    simp only [factsP, List.getD_cons_zero, List.getD_cons_succ] at hpq
    have f24 := hpq.1
    replace hpq := hpq.2
    clear hpq
    replace f24 : vals 24 = _ := f24
    simp only [List.getD_cons_zero, List.getD_cons_succ, canonP, f24]
    clear f24
    have hb4 := HG3.out.trans ((Grow.drew _).trans hRq)
    have c0 := (box_at hb4).1
    have c1 := (box_at hb4).2.1
    have c2 := (box_at hb4).2.2.1
    have c3 := (box_at hb4).2.2.2
    simp only [Oper.gives]
    go_simp
    exact ⟨is_mk _ _, Grow.refl _⟩
  case o26 =>
    intro vals wq hRq hpq
    simp only [factsP, List.getD_cons_zero, List.getD_cons_succ] at hpq
    have f24 := hpq.1
    replace hpq := hpq.2
    have f25 := hpq.1
    replace hpq := hpq.2
    clear hpq
    replace f24 : vals 24 = _ := f24
    replace f25 : vals 25 = _ := f25
    simp only [List.getD_cons_zero, List.getD_cons_succ, canonP, f24, f25]
    clear f24 f25
    simp only [Oper.gives]
    go_simp
    exact (HNL.out wq).mono fun e w' ⟨he, hg⟩ => ⟨_, he, is_mk _ _, hg⟩
  case o27 =>
    intro vals wq hRq hpq
    simp only [factsP, List.getD_cons_zero, List.getD_cons_succ] at hpq
    have f24 := hpq.1
    replace hpq := hpq.2
    clear hpq
    replace f24 : vals 24 = _ := f24
    simp only [List.getD_cons_zero, List.getD_cons_succ, canonP, f24]
    clear f24
    simp only [Oper.gives]
    go_simp
    exact ⟨is_mk _ _, Grow.refl _⟩
  case o28 =>
    intro vals wq hRq hpq
    simp only [factsP, List.getD_cons_zero, List.getD_cons_succ] at hpq
    have f24 := hpq.1
    replace hpq := hpq.2
    have f27 := hpq.1
    replace hpq := hpq.2
    clear hpq
    replace f24 : vals 24 = _ := f24
    replace f27 : vals 27 = _ := f27
    simp only [List.getD_cons_zero, List.getD_cons_succ, canonP, f24, f27]
    clear f24 f27
    have hb4 := HG3.out.trans ((Grow.drew _).trans hRq)
    have c0 := (box_at hb4).1
    have c1 := (box_at hb4).2.1
    have c2 := (box_at hb4).2.2.1
    have c3 := (box_at hb4).2.2.2
    simp only [Oper.gives]
    go_simp
    exact ⟨is_mk _ _, Grow.refl _⟩
  case o29 =>
    intro vals wq hRq hpq
    simp only [factsP, List.getD_cons_zero, List.getD_cons_succ] at hpq
    have f24 := hpq.1
    replace hpq := hpq.2
    clear hpq
    replace f24 : vals 24 = _ := f24
    simp only [List.getD_cons_zero, List.getD_cons_succ, canonP, f24]
    clear f24
    simp only [Oper.gives]
    go_simp
    exact ⟨is_mk _ _, Grow.refl _⟩
  case o30 =>
    intro vals wq hRq hpq
    simp only [factsP, List.getD_cons_zero, List.getD_cons_succ] at hpq
    have f24 := hpq.1
    replace hpq := hpq.2
    have f29 := hpq.1
    replace hpq := hpq.2
    clear hpq
    replace f24 : vals 24 = _ := f24
    replace f29 : vals 29 = _ := f29
    simp only [List.getD_cons_zero, List.getD_cons_succ, canonP, f24, f29]
    clear f24 f29
    have hb4 := HG3.out.trans ((Grow.drew _).trans hRq)
    have c0 := (box_at hb4).1
    have c1 := (box_at hb4).2.1
    have c2 := (box_at hb4).2.2.1
    have c3 := (box_at hb4).2.2.2
    simp only [Oper.gives]
    go_simp
    exact ⟨is_mk _ _, Grow.refl _⟩
  case o31 =>
    intro vals wq hRq hpq
    simp only [factsP, List.getD_cons_zero, List.getD_cons_succ] at hpq
    have f24 := hpq.1
    replace hpq := hpq.2
    have f28 := hpq.1
    replace hpq := hpq.2
    have f30 := hpq.1
    replace hpq := hpq.2
    clear hpq
    replace f24 : vals 24 = _ := f24
    replace f28 : vals 28 = _ := f28
    replace f30 : vals 30 = _ := f30
    simp only [List.getD_cons_zero, List.getD_cons_succ, canonP, f24, f28, f30]
    clear f24 f28 f30
    have hh0 := E4.out
    simp only [Oper.gives]
    go_simp
    exact ⟨is_mk _ _, Grow.refl _⟩
  case o32 =>
    intro vals wq hRq hpq
    simp only [factsP, List.getD_cons_zero, List.getD_cons_succ] at hpq
    have f24 := hpq.1
    replace hpq := hpq.2
    have f26 := hpq.1
    replace hpq := hpq.2
    have f31 := hpq.1
    replace hpq := hpq.2
    clear hpq
    replace f24 : vals 24 = _ := f24
    replace f26 : vals 26 = _ := f26
    replace f31 : vals 31 = _ := f31
    simp only [List.getD_cons_zero, List.getD_cons_succ, canonP, f24, f26, f31]
    clear f24 f26 f31
    simp only [Oper.gives]
    go_simp
    exact ⟨is_mk _ _, Grow.refl _⟩
  case o33 =>
    intro vals wq hRq hpq
    simp only [factsP, List.getD_cons_zero, List.getD_cons_succ] at hpq
    have f24 := hpq.1
    replace hpq := hpq.2
    have f32 := hpq.1
    replace hpq := hpq.2
    clear hpq
    replace f24 : vals 24 = _ := f24
    replace f32 : vals 32 = _ := f32
    simp only [List.getD_cons_zero, List.getD_cons_succ, canonP, f24, f32]
    clear f24 f32
    simp only [Oper.gives]
    go_simp
    exact ⟨is_mk _ _, Grow.refl _⟩
  intro vals wz hRwz hfwz
  simp only [AllFacts] at hfwz
  have g0 := hfwz.1
  replace hfwz := hfwz.2
  have g1 := hfwz.1
  replace hfwz := hfwz.2
  have g2 := hfwz.1
  replace hfwz := hfwz.2
  have g3 := hfwz.1
  replace hfwz := hfwz.2
  have g4 := hfwz.1
  replace hfwz := hfwz.2
  have g5 := hfwz.1
  replace hfwz := hfwz.2
  have g6 := hfwz.1
  replace hfwz := hfwz.2
  have g7 := hfwz.1
  replace hfwz := hfwz.2
  have g8 := hfwz.1
  replace hfwz := hfwz.2
  have g9 := hfwz.1
  replace hfwz := hfwz.2
  have g10 := hfwz.1
  replace hfwz := hfwz.2
  have g11 := hfwz.1
  replace hfwz := hfwz.2
  have g12 := hfwz.1
  replace hfwz := hfwz.2
  have g13 := hfwz.1
  replace hfwz := hfwz.2
  have g14 := hfwz.1
  replace hfwz := hfwz.2
  have g15 := hfwz.1
  replace hfwz := hfwz.2
  have g16 := hfwz.1
  replace hfwz := hfwz.2
  have g17 := hfwz.1
  replace hfwz := hfwz.2
  have g18 := hfwz.1
  replace hfwz := hfwz.2
  have g19 := hfwz.1
  replace hfwz := hfwz.2
  have g20 := hfwz.1
  replace hfwz := hfwz.2
  have g21 := hfwz.1
  replace hfwz := hfwz.2
  have g22 := hfwz.1
  replace hfwz := hfwz.2
  have g23 := hfwz.1
  replace hfwz := hfwz.2
  have g24 := hfwz.1
  replace hfwz := hfwz.2
  have g25 := hfwz.1
  replace hfwz := hfwz.2
  have g26 := hfwz.1
  replace hfwz := hfwz.2
  have g27 := hfwz.1
  replace hfwz := hfwz.2
  have g28 := hfwz.1
  replace hfwz := hfwz.2
  have g29 := hfwz.1
  replace hfwz := hfwz.2
  have g30 := hfwz.1
  replace hfwz := hfwz.2
  have g31 := hfwz.1
  replace hfwz := hfwz.2
  have g32 := hfwz.1
  replace hfwz := hfwz.2
  have g33 := hfwz.1
  replace hfwz := hfwz.2
  clear hfwz
  replace g0 : vals 0 = _ := g0
  replace g1 : vals 1 = _ := g1
  replace g2 : vals 2 = _ := g2
  replace g3 : vals 3 = _ := g3
  replace g4 : vals 4 = _ := g4
  replace g5 : vals 5 = _ := g5
  replace g6 : vals 6 = _ := g6
  replace g7 : vals 7 = _ := g7
  replace g8 : vals 8 = _ := g8
  replace g9 : vals 9 = _ := g9
  replace g10 : vals 10 = _ := g10
  replace g11 : vals 11 = _ := g11
  replace g12 : vals 12 = _ := g12
  replace g13 : vals 13 = _ := g13
  replace g14 : vals 14 = _ := g14
  replace g15 : vals 15 = _ := g15
  replace g16 : vals 16 = _ := g16
  replace g17 : vals 17 = _ := g17
  replace g18 : vals 18 = _ := g18
  replace g19 : vals 19 = _ := g19
  replace g20 : vals 20 = _ := g20
  replace g21 : vals 21 = _ := g21
  replace g22 : vals 22 = _ := g22
  replace g23 : vals 23 = _ := g23
  replace g24 : vals 24 = _ := g24
  replace g25 : vals 25 = _ := g25
  replace g26 : vals 26 = _ := g26
  replace g27 : vals 27 = _ := g27
  replace g28 : vals 28 = _ := g28
  replace g29 : vals 29 = _ := g29
  replace g30 : vals 30 = _ := g30
  replace g31 : vals 31 = _ := g31
  replace g32 : vals 32 = _ := g32
  replace g33 : vals 33 = _ := g33
  simp only [canonP, Act.put, List.setIfInBounds_toArray, List.set_cons_succ, List.set_cons_zero, g0, g1, g2, g3, g4, g5, g6, g7, g8, g9, g10, g11, g12, g13, g14, g15, g16, g17, g18, g19, g20, g21, g22, g23, g24, g25, g26, g27, g28, g29, g30, g31, g32, g33]
  clear g0 g1 g2 g3 g4 g5 g6 g7 g8 g9 g10 g11 g12 g13 g14 g15 g16 g17 g18 g19 g20 g21 g22 g23 g24 g25 g26 g27 g28 g29 g30 g31 g32 g33
  have HG4 := Lib.hid (HG3.out.trans ((Grow.drew _).trans hRwz))
  clear hRwz
  have hmk := mk9
  have T0 := Lib.hid (cnt_new wz sz ni jr)
  obtain ⟨BC, hBC⟩ : ∃ BC, BC = wz.heap.size := ⟨_, rfl⟩
  have HW8 := Lib.hid (isWhat_of (show whatOf gr sz ni jr (-1) = thV ⟨0, 0, 0, 0⟩ from if_neg (fun c => by have := c.2.1; omega)))
  have HW9 := Lib.hid (isWhat_of (show whatOf gr sz ni jr (N : Int) = thV ⟨0, 0, 0, 0⟩ from if_neg (fun c => by
    have h9 := c.2.2
    have hn := HNN.out
    unfold nBlocks at h9
    rw [if_pos HM.out] at h9
    have : ((gr * sz : Nat) : Int) = (gr : Int) * (sz : Int) := by simp
    omega)))
  have HBC := Lib.hid hBC
  clear hBC
  go_wp2_with fail
  clear hmk
  have HA := Lib.hid ((Below.refl wz.heap.size wz).alloc (Nat.le_refl _) (.cells #[.int .i64 0, .int .i64 0, .int .i64 0, .int .i64 0, .int .i64 0, .int .i64 0, .int .i64 0, .int .i64 0, .int .i64 0] 3))
  have HZ := Lib.hid (show wz.heap.size < (wz.alloc (.cells #[.int .i64 0, .int .i64 0, .int .i64 0, .int .i64 0, .int .i64 0, .int .i64 0, .int .i64 0, .int .i64 0, .int .i64 0] 3)).heap.size by simp)
  rw [← HBC.out] at T0 HA HZ ⊢
  go_loopw [5] (fun i wr => ∃ b : Nat, b ≤ N ∧ i = .int .i64 (b : Int) ∧ Hid (Below BC wz wr) ∧ Hid (BC < wr.heap.size) ∧ Hid (Cnt wr BC sz ni jr b)) (fun i _ => N - (intOf i).toNat)
  case atStart => exact ⟨0, by omega, rfl, HA, HZ, T0⟩
  case round =>
    obtain ⟨b, hb, rfl, HB, HSZ, HCN⟩ := hrel
    clear HA HZ T0
    have HGB := Lib.hid (show Grow (w.alloc (gbox gr sz ni jr)) wr from HG4.out.trans (by have := HB.out; rw [HBC.out] at this; exact this))
    by_cases hlt : b < N
    · obtain ⟨c0, c1, c2, c3⟩ := box_at HGB.out
      have HWB := Lib.hid (show whatOf gr sz ni jr (b : Int) = thV (whatT sz ni jr b) by
        have hn := HNN.out
        have e : ((gr * sz : Nat) : Int) = (gr : Int) * (sz : Int) := by simp
        unfold whatOf nBlocks; rw [if_pos HM.out, if_pos ⟨HM.out, by omega, by omega⟩]; simp)
      have hsz0 : 0 < sz := by obtain ⟨_, _, m3, _⟩ := HM.out; omega
      have hgr0 : 0 < gr := by obtain ⟨m1, _⟩ := HM.out; omega
      have hjr : jr ≤ 256 := by obtain ⟨_, _, _, _, _, _, _, _, m9, _⟩ := HM.out; omega
      have hst : ∀ tg : Nat, tg < gr → ∃ S : Nat, S = 2 + jr + tg * sz ∧ S ≤ 2048 ∧ Hid (∀ wq, Calls Try.prog 16 #[gv gr sz ni jr, .int .i64 (tg : Int)] wq fun e w' => e = .returned (.tuple #[.int .i64 (S : Int), .bool true]) ∧ Grow wq w') := fun tg h => by
        have hks : (tg + 1) * sz ≤ gr * sz := Nat.mul_le_mul_right _ h
        rw [Nat.add_mul, Nat.one_mul] at hks
        have hn := HNN.out
        refine ⟨_, rfl, by omega, Lib.hid fun wq => ?_⟩
        have := start_yes gr sz ni jr (tg : Int) HM.out (by omega) (by omega) wq
        have e : (2 + (jr : Int) + (tg : Int) * (sz : Int)) = ((2 + jr + tg * sz : Nat) : Int) := by simp
        rw [e] at this
        exact this
      have HST := Lib.hid hst
      clear hst
      rcases what_cases gr sz ni jr b hsz0 (by have := HNN.out; omega) with ⟨hb0, hw⟩ | ⟨hb0, hw⟩ | ⟨hb1, hb2, hw⟩ | ⟨tk, tg, tp, ti, hw, k4, k7, hg, hS⟩
      · subst hb0
        have HK := Lib.hid (show (whatT sz ni jr 0).kind = 1 by rw [hw])
        rw [hw] at HWB
        have HW := Lib.hid (isWhat_of HWB.out)
        obtain ⟨kc, hkc⟩ : ∃ kc : Nat, kc = kcnt sz ni jr 1 0 := ⟨_, rfl⟩
        have hkl : kc ≤ 2048 := by have := kcnt_le sz ni jr 1 0; omega
        have HKC := Lib.hid hkc
        clear hw HWB hkc
        obtain ⟨S, hSe, hSl, HS⟩ := HST.out 0 (by omega)
        clear hSe
        go_wp2_with fail
        refine (HW.out _).mono ?_
        rintro e w5 ⟨rfl, hg⟩
        have HG5 := Lib.hid hg
        clear hg c0 c1 c2 c3
        obtain ⟨c0, c1, c2, c3⟩ := box_at (HGB.out.trans HG5.out)
        have HC5 := Lib.hid (HCN.out.grow HG5.out HSZ.out)
        have hcc : w5.cell? ⟨BC, 1, none⟩ = some (.int .i64 (kc : Int)) := by rw [HKC.out]; exact (HC5.out 1 (by omega)).1
        have hcf : w5.frozen? ⟨BC, 1, none⟩ = false := (HC5.out 1 (by omega)).2
        have hbx : ∀ o, (w5.setCell ⟨BC, 1, none⟩ (.int .i64 ((kc : Int) + 1))).cell? ⟨w.heap.size, o, none⟩ = w5.cell? ⟨w.heap.size, o, none⟩ := fun o => World.cell?_setCell_other _ _ _ _ (fun c => by
          have h1 := Below.size HG4.out
          have h2 := HBC.out
          simp at h1
          cases c
          omega)
        have d0 := (hbx 0).trans c0
        have d1 := (hbx 1).trans c1
        have d2 := (hbx 2).trans c2
        have d3 := (hbx 3).trans c3
        clear hbx
        go_wp2_with fail
        refine (HS.out _).mono ?_
        rintro e w6 ⟨rfl, hg⟩
        have HG6 := Lib.hid hg
        clear hg c0 c1 c2 c3 d0 d1 d2 d3 hcc hcf
        go_wp2_with fail
        go_roundw
        case rel =>
          have hs5 := Below.size HG5.out
          have hs6 := Below.size HG6.out
          have hsz := HSZ.out
          simp at hs6
          have h7 := HC5.out.step HK.out (by omega)
          have e7 : ((kcnt sz ni jr 1 0 + 1 : Nat) : Int) = (kc : Int) + 1 := by rw [← HKC.out]; simp
          rw [e7] at h7
          refine ⟨0 + 1, by omega, by go_num, Lib.hid ?_, Lib.hid (by omega), Lib.hid (h7.grow HG6.out (by simp; omega))⟩
          exact ((HB.out.trans (Below.mono HG5.out (by omega))).setCell (p := ⟨BC, 1, none⟩) (Nat.le_refl _) _).trans (Below.mono HG6.out (by simp; omega))
        case measure => simp [intOf]; omega
      · subst hb0
        have HK := Lib.hid (show (whatT sz ni jr 1).kind = 2 by rw [hw])
        rw [hw] at HWB
        have HW := Lib.hid (isWhat_of HWB.out)
        obtain ⟨kc, hkc⟩ : ∃ kc : Nat, kc = kcnt sz ni jr 2 1 := ⟨_, rfl⟩
        have hkl : kc ≤ 2048 := by have := kcnt_le sz ni jr 2 1; omega
        have HKC := Lib.hid hkc
        clear hw HWB hkc
        obtain ⟨S, hSe, hSl, HS⟩ := HST.out 0 (by omega)
        clear hSe
        go_wp2_with fail
        refine (HW.out _).mono ?_
        rintro e w5 ⟨rfl, hg⟩
        have HG5 := Lib.hid hg
        clear hg c0 c1 c2 c3
        obtain ⟨c0, c1, c2, c3⟩ := box_at (HGB.out.trans HG5.out)
        have HC5 := Lib.hid (HCN.out.grow HG5.out HSZ.out)
        have hcc : w5.cell? ⟨BC, 2, none⟩ = some (.int .i64 (kc : Int)) := by rw [HKC.out]; exact (HC5.out 2 (by omega)).1
        have hcf : w5.frozen? ⟨BC, 2, none⟩ = false := (HC5.out 2 (by omega)).2
        have hbx : ∀ o, (w5.setCell ⟨BC, 2, none⟩ (.int .i64 ((kc : Int) + 1))).cell? ⟨w.heap.size, o, none⟩ = w5.cell? ⟨w.heap.size, o, none⟩ := fun o => World.cell?_setCell_other _ _ _ _ (fun c => by
          have h1 := Below.size HG4.out
          have h2 := HBC.out
          simp at h1
          cases c
          omega)
        have d0 := (hbx 0).trans c0
        have d1 := (hbx 1).trans c1
        have d2 := (hbx 2).trans c2
        have d3 := (hbx 3).trans c3
        clear hbx
        go_wp2_with fail
        refine (HS.out _).mono ?_
        rintro e w6 ⟨rfl, hg⟩
        have HG6 := Lib.hid hg
        clear hg c0 c1 c2 c3 d0 d1 d2 d3 hcc hcf
        go_wp2_with fail
        go_roundw
        case rel =>
          have hs5 := Below.size HG5.out
          have hs6 := Below.size HG6.out
          have hsz := HSZ.out
          simp at hs6
          have h7 := HC5.out.step HK.out (by omega)
          have e7 : ((kcnt sz ni jr 2 1 + 1 : Nat) : Int) = (kc : Int) + 1 := by rw [← HKC.out]; simp
          rw [e7] at h7
          refine ⟨1 + 1, by omega, by go_num, Lib.hid ?_, Lib.hid (by omega), Lib.hid (h7.grow HG6.out (by simp; omega))⟩
          exact ((HB.out.trans (Below.mono HG5.out (by omega))).setCell (p := ⟨BC, 2, none⟩) (Nat.le_refl _) _).trans (Below.mono HG6.out (by simp; omega))
        case measure => simp [intOf]; omega
      · obtain ⟨tp, htp⟩ : ∃ tp : Nat, tp = b - 2 := ⟨_, rfl⟩
        rw [← htp] at hw
        have ht2 : IntKind.i64.wrap ((tp : Int) + 2) = (b : Int) := by rw [IntWalk.i64_in _ (by omega)]; omega
        clear htp
        have HK := Lib.hid (show (whatT sz ni jr b).kind = 3 by rw [hw])
        rw [hw] at HWB
        have HW := Lib.hid (isWhat_of HWB.out)
        obtain ⟨kc, hkc⟩ : ∃ kc : Nat, kc = kcnt sz ni jr 3 b := ⟨_, rfl⟩
        have hkl : kc ≤ 2048 := by have := kcnt_le sz ni jr 3 b; omega
        have HKC := Lib.hid hkc
        clear hw HWB hkc
        obtain ⟨S, hSe, hSl, HS⟩ := HST.out 0 (by omega)
        clear hSe
        go_wp2_with fail
        refine (HW.out _).mono ?_
        rintro e w5 ⟨rfl, hg⟩
        have HG5 := Lib.hid hg
        clear hg c0 c1 c2 c3
        obtain ⟨c0, c1, c2, c3⟩ := box_at (HGB.out.trans HG5.out)
        have HC5 := Lib.hid (HCN.out.grow HG5.out HSZ.out)
        have hcc : w5.cell? ⟨BC, 3, none⟩ = some (.int .i64 (kc : Int)) := by rw [HKC.out]; exact (HC5.out 3 (by omega)).1
        have hcf : w5.frozen? ⟨BC, 3, none⟩ = false := (HC5.out 3 (by omega)).2
        have hbx : ∀ o, (w5.setCell ⟨BC, 3, none⟩ (.int .i64 ((kc : Int) + 1))).cell? ⟨w.heap.size, o, none⟩ = w5.cell? ⟨w.heap.size, o, none⟩ := fun o => World.cell?_setCell_other _ _ _ _ (fun c => by
          have h1 := Below.size HG4.out
          have h2 := HBC.out
          simp at h1
          cases c
          omega)
        have d0 := (hbx 0).trans c0
        have d1 := (hbx 1).trans c1
        have d2 := (hbx 2).trans c2
        have d3 := (hbx 3).trans c3
        clear hbx
        go_wp2_with fail
        refine (HS.out _).mono ?_
        rintro e w6 ⟨rfl, hg⟩
        have HG6 := Lib.hid hg
        clear hg c0 c1 c2 c3 d0 d1 d2 d3 hcc hcf
        go_wp2_with fail
        go_roundw
        case rel =>
          have hs5 := Below.size HG5.out
          have hs6 := Below.size HG6.out
          have hsz := HSZ.out
          simp at hs6
          have h7 := HC5.out.step HK.out (by omega)
          have e7 : ((kcnt sz ni jr 3 b + 1 : Nat) : Int) = (kc : Int) + 1 := by rw [← HKC.out]; simp
          rw [e7] at h7
          refine ⟨b + 1, by omega, by go_num, Lib.hid ?_, Lib.hid (by omega), Lib.hid (h7.grow HG6.out (by simp; omega))⟩
          exact ((HB.out.trans (Below.mono HG5.out (by omega))).setCell (p := ⟨BC, 3, none⟩) (Nat.le_refl _) _).trans (Below.mono HG6.out (by simp; omega))
        case measure => simp [intOf]; omega
      · have htb : tp ≤ b := by omega
        have HK := Lib.hid (show (whatT sz ni jr b).kind = tk by rw [hw])
        rw [hw] at HWB
        have HW := Lib.hid (isWhat_of HWB.out)
        obtain ⟨kc, hkc⟩ : ∃ kc : Nat, kc = kcnt sz ni jr tk b := ⟨_, rfl⟩
        have hkl : kc ≤ 2048 := by have := kcnt_le sz ni jr tk b; omega
        have HKC := Lib.hid hkc
        clear hw HWB hkc
        obtain ⟨S, hSe, hSl, HS⟩ := HST.out tg (by omega)
        have hsum : IntKind.i64.wrap ((S : Int) + (tp : Int)) = (b : Int) := by rw [IntWalk.i64_in _ (by omega)]; omega
        have hn3 : ((tk : Int) == 3) = false := by rw [beq_eq_false_iff_ne]; omega
        have hl1 : decide ((tk : Int) < 1) = false := by simp; omega
        have hl7 : decide (7 < (tk : Int)) = false := by simp; omega
        have hl4 : decide (4 ≤ (tk : Int)) = true := by simp; omega
        have hl2 : decide ((tk : Int) ≤ 2) = false := by simp; omega
        have hi0 : (0 : Int) ≤ (tk : Int) := by omega
        have hi9 : (tk : Int) < 9 := by omega
        clear hSe hS
        go_wp2_with fail
        refine (HW.out _).mono ?_
        rintro e w5 ⟨rfl, hg⟩
        have HG5 := Lib.hid hg
        clear hg c0 c1 c2 c3
        obtain ⟨c0, c1, c2, c3⟩ := box_at (HGB.out.trans HG5.out)
        have HC5 := Lib.hid (HCN.out.grow HG5.out HSZ.out)
        have hcc : w5.cell? ⟨BC, tk, none⟩ = some (.int .i64 (kc : Int)) := by rw [HKC.out]; exact (HC5.out tk (by omega)).1
        have hcf : w5.frozen? ⟨BC, tk, none⟩ = false := (HC5.out tk (by omega)).2
        have hbx : ∀ o, (w5.setCell ⟨BC, tk, none⟩ (.int .i64 ((kc : Int) + 1))).cell? ⟨w.heap.size, o, none⟩ = w5.cell? ⟨w.heap.size, o, none⟩ := fun o => World.cell?_setCell_other _ _ _ _ (fun c => by
          have h1 := Below.size HG4.out
          have h2 := HBC.out
          simp at h1
          cases c
          omega)
        have d0 := (hbx 0).trans c0
        have d1 := (hbx 1).trans c1
        have d2 := (hbx 2).trans c2
        have d3 := (hbx 3).trans c3
        clear hbx
        go_wp2_with fail
        refine (HS.out _).mono ?_
        rintro e w6 ⟨rfl, hg⟩
        have HG6 := Lib.hid hg
        clear hg c0 c1 c2 c3 d0 d1 d2 d3 hcc hcf
        go_wp2_with fail
        go_roundw
        case rel =>
          have hs5 := Below.size HG5.out
          have hs6 := Below.size HG6.out
          have hsz := HSZ.out
          simp at hs6
          have h7 := HC5.out.step HK.out (by omega)
          have e7 : ((kcnt sz ni jr tk b + 1 : Nat) : Int) = (kc : Int) + 1 := by rw [← HKC.out]; simp
          rw [e7] at h7
          refine ⟨b + 1, by omega, by go_num, Lib.hid ?_, Lib.hid (by omega), Lib.hid (h7.grow HG6.out (by simp; omega))⟩
          exact ((HB.out.trans (Below.mono HG5.out (by omega))).setCell (p := ⟨BC, tk, none⟩) (Nat.le_refl _) _).trans (Below.mono HG6.out (by simp; omega))
        case measure => simp [intOf]; omega
    · obtain rfl : N = b := by omega
      have E9 : IntKind.i64.wrap (-1 + (N : Int)) = (N : Int) - 1 := by rw [IntWalk.i64_in _ (by omega)]; omega
      have E10 : IntKind.i64.wrap ((N : Int) - 1 + 1) = (N : Int) := by rw [IntWalk.i64_in _ (by omega)]; omega
      have E11 : IntKind.i64.wrap ((N : Int) + (N : Int)) = ((N + N : Nat) : Int) := by rw [IntWalk.i64_in _ (by omega)]; omega
      have E12 : IntKind.i64.wrap (((N + N : Nat) : Int) + 1) = ((N + N + 1 : Nat) : Int) := by rw [IntWalk.i64_in _ (by omega)]; omega
      have X9 := Lib.hid E9
      have X10 := Lib.hid E10
      have X11 := Lib.hid E11
      have X12 := Lib.hid E12
      clear E9 E10 E11 E12
      go_wp2_with fail
      obtain ⟨wo, hwo⟩ : ∃ wo : World, wo = wr := ⟨_, rfl⟩
      rw [← hwo] at HB HSZ HCN HGB ⊢
      clear hwo
      go_loopw [11] (fun i wr => (i = .int .i64 (-1) ∨ i = .int .i64 (N : Int) ∨ i = .int .i64 ((N + N + 1 : Nat) : Int)) ∧ Hid (Grow wo wr)) (fun i _ => (((N + N + 1 : Nat) : Int) - intOf i).toNat)
      case atStart => exact ⟨.inl rfl, Lib.hid (Grow.refl _)⟩
      case round =>
        obtain ⟨rfl | rfl | rfl, HWO⟩ := hrel
        · obtain ⟨c0, c1, c2, c3⟩ := box_at (HGB.out.trans HWO.out)
          go_wp2_with fail
          refine (HW8.out _).mono ?_
          rintro e w5 ⟨rfl, hg⟩
          have HG5 := Lib.hid (HWO.out.trans hg)
          clear hg c0 c1 c2 c3
          have x9 := X9.out
          have x10 := X10.out
          go_wp2_with fail
          clear x9 x10
          go_roundw
          case rel => exact ⟨.inr (.inl rfl), HG5⟩
          case measure => simp [intOf]; omega
        · obtain ⟨c0, c1, c2, c3⟩ := box_at (HGB.out.trans HWO.out)
          go_wp2_with fail
          refine (HW9.out _).mono ?_
          rintro e w5 ⟨rfl, hg⟩
          have HG5 := Lib.hid (HWO.out.trans hg)
          clear hg c0 c1 c2 c3
          have x9 := X11.out
          have x10 := X12.out
          go_wp2_with fail
          clear x9 x10
          go_roundw
          case rel => exact ⟨.inr (.inr rfl), HG5⟩
          case measure => simp [intOf]; omega
        · have hout : decide (((N + N + 1 : Nat) : Int) ≤ (N : Int)) = false := by simp; omega
          have hcnt := HCN.out.grow HWO.out HSZ.out
          have hks := fun j hj => (hcnt j hj).1
          obtain ⟨m1, m2, m3, m4, m5, m6, m7, m8, m9, m10, m11⟩ := HM.out
          have hall := fun j => kcnt_all gr sz ni jr j (by omega)
          rw [← HNN.out] at hall
          have a1 := hks 1 (by omega)
          have a2 := hks 2 (by omega)
          have a3 := hks 3 (by omega)
          have a4 := hks 4 (by omega)
          have a5 := hks 5 (by omega)
          have a6 := hks 6 (by omega)
          have a7 := hks 7 (by omega)
          rw [hall] at a1 a2 a3 a4 a5 a6 a7
          simp at a1 a2 a3 a4 a5 a6 a7
          obtain ⟨K6, hK6⟩ : ∃ K6 : Int, K6 = (gr : Int) * ((ni : Int) / 4) := ⟨_, rfl⟩
          obtain ⟨K7, hK7⟩ : ∃ K7 : Int, K7 = (gr : Int) * ND := ⟨_, rfl⟩
          have hg4 : gr = 1 ∨ gr = 2 ∨ gr = 3 ∨ gr = 4 := by omega
          have e7 : ((sz - 2 - ni / 4 : Nat) : Int) = ND := by rw [HND.out]; omega
          have HK1 := Lib.hid a1
          have HK2 := Lib.hid a2
          have HK3 := Lib.hid a3
          have HK4 := Lib.hid a4
          have HK5 := Lib.hid a5
          have HK6 := Lib.hid (show wr.cell? ⟨BC, 6, none⟩ = some (.int .i64 K6) by rw [hK6]; exact a6)
          have HK7 := Lib.hid (show wr.cell? ⟨BC, 7, none⟩ = some (.int .i64 K7) by rw [hK7, ← e7]; exact a7)
          have E5 := Lib.hid (show IntKind.i64.wrap (4 * K6) = NI by
            have : 4 * K6 = NI := by
              rw [hK6, HNI.out]
              rcases hg4 with h | h | h | h <;> rw [h] <;> omega
            rw [this]
            have hb2 := mul_gi m1 m2 m5 m6
            rw [← HNI.out] at hb2
            exact IntWalk.i64_in _ (by omega))
          have E6 := Lib.hid (show IntKind.i64.wrap ((gr : Int) * ND) = K7 by
            rw [hK7]
            have : 0 ≤ (gr : Int) * ND ∧ (gr : Int) * ND ≤ 4 * 512 := by
              have hd := HND.out
              rcases hg4 with h | h | h | h <;> rw [h] <;> omega
            exact IntWalk.i64_in _ (by omega))
          have HSZ := Lib.hid (Nat.lt_of_lt_of_le HSZ.out (Below.size HWO.out))
          have HGB := Lib.hid (HGB.out.trans HWO.out)
          clear hcnt hks m1 m2 m3 m4 m5 m6 m7 m8 m9 m10 m11 hall a1 a2 a3 a4 a5 a6 a7 hK6 hK7 hg4 e7
          go_wp2_with fail
          clear hout
          refine wp_region_facts (by kernel_rfl) [[], [(0, some 158)], [(1, some 159)], [(2, some 160)], [(3, some 161)], [(4, some 162)], [(4, some 162), (5, some 163)], [(4, some 162), (6, some 164)], [(4, some 162), (7, some 165)], [(4, some 162), (8, some 166)], [(4, some 162), (9, some 167)], [(10, some 168)], [(10, some 168), (11, some 169)], [(10, some 168), (12, some 170)], [(10, some 168)], [(10, some 168), (14, some 172)], [(10, some 168), (13, some 171), (15, some 173)], [(10, some 168), (16, some 174)], [(10, some 168), (17, some 175)], [(18, some 176)], [(18, some 176), (19, some 177)], [(18, some 176), (20, some 178)], [(18, some 176)], [(18, some 176), (22, some 180)], [(18, some 176), (21, some 179), (23, some 181)], [(18, some 176), (24, some 182)], [(18, some 176), (25, some 183)], [(26, some 184)], [(26, some 184), (27, some 185)], [(26, some 184), (28, some 186)], [(26, some 184)], [(26, some 184), (30, some 188)], [(26, some 184), (29, some 187), (31, some 189)], [(26, some 184), (32, some 190)], [(26, some 184), (33, some 191)], [(34, some 192)], [(34, some 192), (35, some 193)], [(34, some 192), (36, some 194)], [(34, some 192), (37, some 195)], [(34, some 192)], [(34, some 192), (39, some 197)], [(34, some 192), (38, some 196), (40, some 198)], [(34, some 192), (41, some 199)], [(40, some 198), (42, some 200)], [(43, some 201)], [(43, some 201), (44, some 202)], [(43, some 201), (45, some 203)], [(43, some 201)], [(43, some 201), (47, some 205)], [(43, some 201)], [(43, some 201), (49, some 207)], [(43, some 201), (48, some 206), (50, some 208)], [(43, some 201), (46, some 204), (51, some 209)], [(43, some 201), (52, some 210)], [(0, some 158), (1, some 159), (2, some 160), (3, some 161), (4, some 162), (5, some 163), (6, some 164), (7, some 165), (8, some 166), (9, some 167), (10, some 168), (11, some 169), (12, some 170), (13, some 171), (14, some 172), (15, some 173), (16, some 174), (17, some 175), (18, some 176), (19, some 177), (20, some 178), (21, some 179), (22, some 180), (23, some 181), (24, some 182), (25, some 183), (26, some 184), (27, some 185), (28, some 186), (29, some 187), (30, some 188), (31, some 189), (32, some 190), (33, some 191), (34, some 192), (35, some 193), (36, some 194), (37, some 195), (38, some 196), (39, some 197), (40, some 198), (41, some 199), (42, some 200), (43, some 201), (44, some 202), (45, some 203), (46, some 204), (47, some 205), (48, some 206), (49, some 207), (50, some 208), (51, some 209), (52, some 210), (53, some 211)]] [(0, some 158), (1, some 159), (2, some 160), (3, some 161), (4, some 162), (5, some 163), (6, some 164), (7, some 165), (8, some 166), (9, some 167), (10, some 168), (11, some 169), (12, some 170), (13, some 171), (14, some 172), (15, some 173), (16, some 174), (17, some 175), (18, some 176), (19, some 177), (20, some 178), (21, some 179), (22, some 180), (23, some 181), (24, some 182), (25, some 183), (26, some 184), (27, some 185), (28, some 186), (29, some 187), (30, some 188), (31, some 189), (32, some 190), (33, some 191), (34, some 192), (35, some 193), (36, some 194), (37, some 195), (38, some 196), (39, some 197), (40, some 198), (41, some 199), (42, some 200), (43, some 201), (44, some 202), (45, some 203), (46, some 204), (47, some 205), (48, some 206), (49, some 207), (50, some 208), (51, some 209), (52, some 210), (53, some 211), (54, some 2)] (by kernel_rfl) (by kernel_rfl) (by kernel_rfl) (Grow) Grow.refl (fun _ _ _ h h' => Grow.trans h h') [Is (Value.slice (some ⟨BC, 0, none⟩) 9 9), Is (Value.pointer (some ⟨BC, 1, none⟩)), Is (Value.int .i64 1), Is (Value.bool true), Is (Value.bool true), Is (Value.slice (some ⟨BC, 0, none⟩) 9 9), Is (Value.pointer (some ⟨BC, 2, none⟩)), Is (Value.int .i64 1), Is (Value.bool true), Is (Value.bool true), Is (Value.bool true), Is (Value.slice (some ⟨BC, 0, none⟩) 9 9), Is (Value.pointer (some ⟨BC, 3, none⟩)), Is (Value.int .i64 (jr : Int)), Is (Value.pointer (some ⟨w.heap.size, 3, none⟩)), Is (Value.int .i64 (jr : Int)), Is (Value.bool true), Is (Value.bool true), Is (Value.bool true), Is (Value.slice (some ⟨BC, 0, none⟩) 9 9), Is (Value.pointer (some ⟨BC, 4, none⟩)), Is (Value.int .i64 (gr : Int)), Is (Value.pointer (some ⟨w.heap.size, 0, none⟩)), Is (Value.int .i64 (gr : Int)), Is (Value.bool true), Is (Value.bool true), Is (Value.bool true), Is (Value.slice (some ⟨BC, 0, none⟩) 9 9), Is (Value.pointer (some ⟨BC, 5, none⟩)), Is (Value.int .i64 (gr : Int)), Is (Value.pointer (some ⟨w.heap.size, 0, none⟩)), Is (Value.int .i64 (gr : Int)), Is (Value.bool true), Is (Value.bool true), Is (Value.bool true), Is (Value.slice (some ⟨BC, 0, none⟩) 9 9), Is (Value.pointer (some ⟨BC, 6, none⟩)), Is (Value.int .i64 K6), Is (Value.int .i64 NI), Is (Value.agg #[Value.int .i64 (gr : Int), Value.int .i64 (sz : Int), Value.int .i64 (ni : Int), Value.int .i64 (jr : Int)]), Is (Value.int .i64 NI), Is (Value.bool true), Is (Value.bool true), Is (Value.bool true), Is (Value.slice (some ⟨BC, 0, none⟩) 9 9), Is (Value.pointer (some ⟨BC, 7, none⟩)), Is (Value.int .i64 K7), Is (Value.pointer (some ⟨w.heap.size, 0, none⟩)), Is (Value.int .i64 (gr : Int)), Is (Value.agg #[Value.int .i64 (gr : Int), Value.int .i64 (sz : Int), Value.int .i64 (ni : Int), Value.int .i64 (jr : Int)]), Is (Value.int .i64 ND), Is (Value.int .i64 K7), Is (Value.bool true), Is (Value.bool true), Is (Value.bool true)] rfl ⟨is_stab _ _, is_stab _ _, is_stab _ _, is_stab _ _, is_stab _ _, is_stab _ _, is_stab _ _, is_stab _ _, is_stab _ _, is_stab _ _, is_stab _ _, is_stab _ _, is_stab _ _, is_stab _ _, is_stab _ _, is_stab _ _, is_stab _ _, is_stab _ _, is_stab _ _, is_stab _ _, is_stab _ _, is_stab _ _, is_stab _ _, is_stab _ _, is_stab _ _, is_stab _ _, is_stab _ _, is_stab _ _, is_stab _ _, is_stab _ _, is_stab _ _, is_stab _ _, is_stab _ _, is_stab _ _, is_stab _ _, is_stab _ _, is_stab _ _, is_stab _ _, is_stab _ _, is_stab _ _, is_stab _ _, is_stab _ _, is_stab _ _, is_stab _ _, is_stab _ _, is_stab _ _, is_stab _ _, is_stab _ _, is_stab _ _, is_stab _ _, is_stab _ _, is_stab _ _, is_stab _ _, is_stab _ _, is_stab _ _, trivial⟩ ⟨?o0, ?o1, ?o2, ?o3, ?o4, ?o5, ?o6, ?o7, ?o8, ?o9, ?o10, ?o11, ?o12, ?o13, ?o14, ?o15, ?o16, ?o17, ?o18, ?o19, ?o20, ?o21, ?o22, ?o23, ?o24, ?o25, ?o26, ?o27, ?o28, ?o29, ?o30, ?o31, ?o32, ?o33, ?o34, ?o35, ?o36, ?o37, ?o38, ?o39, ?o40, ?o41, ?o42, ?o43, ?o44, ?o45, ?o46, ?o47, ?o48, ?o49, ?o50, ?o51, ?o52, ?o53, ?o54, trivial⟩ ?_
          case o0 =>
            intro vals wq hRq hpq
            simp only [List.getD_cons_zero, List.getD_cons_succ, canonP]
            simp only [Oper.gives]
            go_simp
            exact ⟨is_mk _ _, Grow.refl _⟩
          case o1 =>
            intro vals wq hRq hpq
            simp only [factsP, List.getD_cons_zero, List.getD_cons_succ] at hpq
            have f0 := hpq.1
            replace hpq := hpq.2
            clear hpq
            replace f0 : vals 0 = _ := f0
            simp only [List.getD_cons_zero, List.getD_cons_succ, canonP, f0]
            clear f0
            simp only [Oper.gives]
            go_simp
            exact ⟨is_mk _ _, Grow.refl _⟩
          case o2 =>
            intro vals wq hRq hpq
            simp only [factsP, List.getD_cons_zero, List.getD_cons_succ] at hpq
            have f1 := hpq.1
            replace hpq := hpq.2
            clear hpq
            replace f1 : vals 1 = _ := f1
            simp only [List.getD_cons_zero, List.getD_cons_succ, canonP, f1]
            clear f1
            have hcc := (Below.cell ((Grow.drew _).trans hRq) (p := ⟨BC, 1, none⟩) HSZ.out).trans HK1.out
            simp only [Oper.gives]
            go_simp
            exact ⟨is_mk _ _, Grow.refl _⟩
          case o3 =>
            intro vals wq hRq hpq
            simp only [factsP, List.getD_cons_zero, List.getD_cons_succ] at hpq
            have f2 := hpq.1
            replace hpq := hpq.2
            clear hpq
            replace f2 : vals 2 = _ := f2
            simp only [List.getD_cons_zero, List.getD_cons_succ, canonP, f2]
            clear f2
            simp only [Oper.gives]
            go_simp
            exact ⟨is_mk _ _, Grow.refl _⟩
          case o4 =>
            intro vals wq hRq hpq
            simp only [factsP, List.getD_cons_zero, List.getD_cons_succ] at hpq
            have f3 := hpq.1
            replace hpq := hpq.2
            clear hpq
            replace f3 : vals 3 = _ := f3
            simp only [List.getD_cons_zero, List.getD_cons_succ, canonP, f3]
            clear f3
            simp only [Oper.gives]
            go_simp
            exact ⟨is_mk _ _, Grow.refl _⟩
          case o5 =>
            intro vals wq hRq hpq
            simp only [factsP, List.getD_cons_zero, List.getD_cons_succ] at hpq
            have f4 := hpq.1
            replace hpq := hpq.2
            clear hpq
            replace f4 : vals 4 = _ := f4
            simp only [List.getD_cons_zero, List.getD_cons_succ, canonP, f4]
            clear f4
            simp only [Oper.gives]
            go_simp
            exact ⟨is_mk _ _, Grow.refl _⟩
          case o6 =>
            intro vals wq hRq hpq
            simp only [factsP, List.getD_cons_zero, List.getD_cons_succ] at hpq
            have f4 := hpq.1
            replace hpq := hpq.2
            have f5 := hpq.1
            replace hpq := hpq.2
            clear hpq
            replace f4 : vals 4 = _ := f4
            replace f5 : vals 5 = _ := f5
            simp only [List.getD_cons_zero, List.getD_cons_succ, canonP, f4, f5]
            clear f4 f5
            simp only [Oper.gives]
            go_simp
            exact ⟨is_mk _ _, Grow.refl _⟩
          case o7 =>
            intro vals wq hRq hpq
            simp only [factsP, List.getD_cons_zero, List.getD_cons_succ] at hpq
            have f4 := hpq.1
            replace hpq := hpq.2
            have f6 := hpq.1
            replace hpq := hpq.2
            clear hpq
            replace f4 : vals 4 = _ := f4
            replace f6 : vals 6 = _ := f6
            simp only [List.getD_cons_zero, List.getD_cons_succ, canonP, f4, f6]
            clear f4 f6
            have hcc := (Below.cell ((Grow.drew _).trans hRq) (p := ⟨BC, 2, none⟩) HSZ.out).trans HK2.out
            simp only [Oper.gives]
            go_simp
            exact ⟨is_mk _ _, Grow.refl _⟩
          case o8 =>
            intro vals wq hRq hpq
            simp only [factsP, List.getD_cons_zero, List.getD_cons_succ] at hpq
            have f4 := hpq.1
            replace hpq := hpq.2
            have f7 := hpq.1
            replace hpq := hpq.2
            clear hpq
            replace f4 : vals 4 = _ := f4
            replace f7 : vals 7 = _ := f7
            simp only [List.getD_cons_zero, List.getD_cons_succ, canonP, f4, f7]
            clear f4 f7
            simp only [Oper.gives]
            go_simp
            exact ⟨is_mk _ _, Grow.refl _⟩
          case o9 =>
            intro vals wq hRq hpq
            simp only [factsP, List.getD_cons_zero, List.getD_cons_succ] at hpq
            have f4 := hpq.1
            replace hpq := hpq.2
            have f8 := hpq.1
            replace hpq := hpq.2
            clear hpq
            replace f4 : vals 4 = _ := f4
            replace f8 : vals 8 = _ := f8
            simp only [List.getD_cons_zero, List.getD_cons_succ, canonP, f4, f8]
            clear f4 f8
            simp only [Oper.gives]
            go_simp
            exact ⟨is_mk _ _, Grow.refl _⟩
          case o10 =>
            intro vals wq hRq hpq
            simp only [factsP, List.getD_cons_zero, List.getD_cons_succ] at hpq
            have f4 := hpq.1
            replace hpq := hpq.2
            have f9 := hpq.1
            replace hpq := hpq.2
            clear hpq
            replace f4 : vals 4 = _ := f4
            replace f9 : vals 9 = _ := f9
            simp only [List.getD_cons_zero, List.getD_cons_succ, canonP, f4, f9]
            clear f4 f9
            simp only [Oper.gives]
            go_simp
            exact ⟨is_mk _ _, Grow.refl _⟩
          case o11 =>
            intro vals wq hRq hpq
            simp only [factsP, List.getD_cons_zero, List.getD_cons_succ] at hpq
            have f10 := hpq.1
            replace hpq := hpq.2
            clear hpq
            replace f10 : vals 10 = _ := f10
            simp only [List.getD_cons_zero, List.getD_cons_succ, canonP, f10]
            clear f10
            simp only [Oper.gives]
            go_simp
            exact ⟨is_mk _ _, Grow.refl _⟩
          case o12 =>
            intro vals wq hRq hpq
            simp only [factsP, List.getD_cons_zero, List.getD_cons_succ] at hpq
            have f10 := hpq.1
            replace hpq := hpq.2
            have f11 := hpq.1
            replace hpq := hpq.2
            clear hpq
            replace f10 : vals 10 = _ := f10
            replace f11 : vals 11 = _ := f11
            simp only [List.getD_cons_zero, List.getD_cons_succ, canonP, f10, f11]
            clear f10 f11
            simp only [Oper.gives]
            go_simp
            exact ⟨is_mk _ _, Grow.refl _⟩
          case o13 =>
            intro vals wq hRq hpq
            simp only [factsP, List.getD_cons_zero, List.getD_cons_succ] at hpq
            have f10 := hpq.1
            replace hpq := hpq.2
            have f12 := hpq.1
            replace hpq := hpq.2
            clear hpq
            replace f10 : vals 10 = _ := f10
            replace f12 : vals 12 = _ := f12
            simp only [List.getD_cons_zero, List.getD_cons_succ, canonP, f10, f12]
            clear f10 f12
            have hcc := (Below.cell ((Grow.drew _).trans hRq) (p := ⟨BC, 3, none⟩) HSZ.out).trans HK3.out
            simp only [Oper.gives]
            go_simp
            exact ⟨is_mk _ _, Grow.refl _⟩
          case o14 =>
            intro vals wq hRq hpq
            simp only [factsP, List.getD_cons_zero, List.getD_cons_succ] at hpq
            have f10 := hpq.1
            replace hpq := hpq.2
            clear hpq
            replace f10 : vals 10 = _ := f10
            simp only [List.getD_cons_zero, List.getD_cons_succ, canonP, f10]
            clear f10
            simp only [Oper.gives]
            go_simp
            exact ⟨is_mk _ _, Grow.refl _⟩
          case o15 =>
            intro vals wq hRq hpq
            simp only [factsP, List.getD_cons_zero, List.getD_cons_succ] at hpq
            have f10 := hpq.1
            replace hpq := hpq.2
            have f14 := hpq.1
            replace hpq := hpq.2
            clear hpq
            replace f10 : vals 10 = _ := f10
            replace f14 : vals 14 = _ := f14
            simp only [List.getD_cons_zero, List.getD_cons_succ, canonP, f10, f14]
            clear f10 f14
            have hb4 := HGB.out.trans ((Grow.drew _).trans hRq)
            have c0 := (box_at hb4).1
            have c1 := (box_at hb4).2.1
            have c2 := (box_at hb4).2.2.1
            have c3 := (box_at hb4).2.2.2
            simp only [Oper.gives]
            go_simp
            exact ⟨is_mk _ _, Grow.refl _⟩
          case o16 =>
            intro vals wq hRq hpq
            simp only [factsP, List.getD_cons_zero, List.getD_cons_succ] at hpq
            have f10 := hpq.1
            replace hpq := hpq.2
            have f13 := hpq.1
            replace hpq := hpq.2
            have f15 := hpq.1
            replace hpq := hpq.2
            clear hpq
            replace f10 : vals 10 = _ := f10
            replace f13 : vals 13 = _ := f13
            replace f15 : vals 15 = _ := f15
            simp only [List.getD_cons_zero, List.getD_cons_succ, canonP, f10, f13, f15]
            clear f10 f13 f15
            simp only [Oper.gives]
            go_simp
            exact ⟨is_mk _ _, Grow.refl _⟩
          case o17 =>
            intro vals wq hRq hpq
            simp only [factsP, List.getD_cons_zero, List.getD_cons_succ] at hpq
            have f10 := hpq.1
            replace hpq := hpq.2
            have f16 := hpq.1
            replace hpq := hpq.2
            clear hpq
            replace f10 : vals 10 = _ := f10
            replace f16 : vals 16 = _ := f16
            simp only [List.getD_cons_zero, List.getD_cons_succ, canonP, f10, f16]
            clear f10 f16
            simp only [Oper.gives]
            go_simp
            exact ⟨is_mk _ _, Grow.refl _⟩
          case o18 =>
            intro vals wq hRq hpq
            simp only [factsP, List.getD_cons_zero, List.getD_cons_succ] at hpq
            have f10 := hpq.1
            replace hpq := hpq.2
            have f17 := hpq.1
            replace hpq := hpq.2
            clear hpq
            replace f10 : vals 10 = _ := f10
            replace f17 : vals 17 = _ := f17
            simp only [List.getD_cons_zero, List.getD_cons_succ, canonP, f10, f17]
            clear f10 f17
            simp only [Oper.gives]
            go_simp
            exact ⟨is_mk _ _, Grow.refl _⟩
          case o19 =>
            intro vals wq hRq hpq
            simp only [factsP, List.getD_cons_zero, List.getD_cons_succ] at hpq
            have f18 := hpq.1
            replace hpq := hpq.2
            clear hpq
            replace f18 : vals 18 = _ := f18
            simp only [List.getD_cons_zero, List.getD_cons_succ, canonP, f18]
            clear f18
            simp only [Oper.gives]
            go_simp
            exact ⟨is_mk _ _, Grow.refl _⟩
          case o20 =>
            intro vals wq hRq hpq
            simp only [factsP, List.getD_cons_zero, List.getD_cons_succ] at hpq
            have f18 := hpq.1
            replace hpq := hpq.2
            have f19 := hpq.1
            replace hpq := hpq.2
            clear hpq
            replace f18 : vals 18 = _ := f18
            replace f19 : vals 19 = _ := f19
            simp only [List.getD_cons_zero, List.getD_cons_succ, canonP, f18, f19]
            clear f18 f19
            simp only [Oper.gives]
            go_simp
            exact ⟨is_mk _ _, Grow.refl _⟩
          case o21 =>
            intro vals wq hRq hpq
            simp only [factsP, List.getD_cons_zero, List.getD_cons_succ] at hpq
            have f18 := hpq.1
            replace hpq := hpq.2
            have f20 := hpq.1
            replace hpq := hpq.2
            clear hpq
            replace f18 : vals 18 = _ := f18
            replace f20 : vals 20 = _ := f20
            simp only [List.getD_cons_zero, List.getD_cons_succ, canonP, f18, f20]
            clear f18 f20
            have hcc := (Below.cell ((Grow.drew _).trans hRq) (p := ⟨BC, 4, none⟩) HSZ.out).trans HK4.out
            simp only [Oper.gives]
            go_simp
            exact ⟨is_mk _ _, Grow.refl _⟩
          case o22 =>
            intro vals wq hRq hpq
            simp only [factsP, List.getD_cons_zero, List.getD_cons_succ] at hpq
            have f18 := hpq.1
            replace hpq := hpq.2
            clear hpq
            replace f18 : vals 18 = _ := f18
            simp only [List.getD_cons_zero, List.getD_cons_succ, canonP, f18]
            clear f18
            simp only [Oper.gives]
            go_simp
            exact ⟨is_mk _ _, Grow.refl _⟩
          case o23 =>
            intro vals wq hRq hpq
            simp only [factsP, List.getD_cons_zero, List.getD_cons_succ] at hpq
            have f18 := hpq.1
            replace hpq := hpq.2
            have f22 := hpq.1
            replace hpq := hpq.2
            clear hpq
            replace f18 : vals 18 = _ := f18
            replace f22 : vals 22 = _ := f22
            simp only [List.getD_cons_zero, List.getD_cons_succ, canonP, f18, f22]
            clear f18 f22
            have hb4 := HGB.out.trans ((Grow.drew _).trans hRq)
            have c0 := (box_at hb4).1
            have c1 := (box_at hb4).2.1
            have c2 := (box_at hb4).2.2.1
            have c3 := (box_at hb4).2.2.2
            simp only [Oper.gives]
            go_simp
            exact ⟨is_mk _ _, Grow.refl _⟩
          case o24 =>
            intro vals wq hRq hpq
            simp only [factsP, List.getD_cons_zero, List.getD_cons_succ] at hpq
            have f18 := hpq.1
            replace hpq := hpq.2
            have f21 := hpq.1
            replace hpq := hpq.2
            have f23 := hpq.1
            replace hpq := hpq.2
            clear hpq
            replace f18 : vals 18 = _ := f18
            replace f21 : vals 21 = _ := f21
            replace f23 : vals 23 = _ := f23
            simp only [List.getD_cons_zero, List.getD_cons_succ, canonP, f18, f21, f23]
            clear f18 f21 f23
            simp only [Oper.gives]
            go_simp
            exact ⟨is_mk _ _, Grow.refl _⟩
          case o25 =>
            intro vals wq hRq hpq
            simp only [factsP, List.getD_cons_zero, List.getD_cons_succ] at hpq
            have f18 := hpq.1
            replace hpq := hpq.2
            have f24 := hpq.1
            replace hpq := hpq.2
            clear hpq
            replace f18 : vals 18 = _ := f18
            replace f24 : vals 24 = _ := f24
            simp only [List.getD_cons_zero, List.getD_cons_succ, canonP, f18, f24]
            clear f18 f24
            simp only [Oper.gives]
            go_simp
            exact ⟨is_mk _ _, Grow.refl _⟩
          case o26 =>
            intro vals wq hRq hpq
            simp only [factsP, List.getD_cons_zero, List.getD_cons_succ] at hpq
            have f18 := hpq.1
            replace hpq := hpq.2
            have f25 := hpq.1
            replace hpq := hpq.2
            clear hpq
            replace f18 : vals 18 = _ := f18
            replace f25 : vals 25 = _ := f25
            simp only [List.getD_cons_zero, List.getD_cons_succ, canonP, f18, f25]
            clear f18 f25
            simp only [Oper.gives]
            go_simp
            exact ⟨is_mk _ _, Grow.refl _⟩
          case o27 =>
            intro vals wq hRq hpq
            simp only [factsP, List.getD_cons_zero, List.getD_cons_succ] at hpq
            have f26 := hpq.1
            replace hpq := hpq.2
            clear hpq
            replace f26 : vals 26 = _ := f26
            simp only [List.getD_cons_zero, List.getD_cons_succ, canonP, f26]
            clear f26
            simp only [Oper.gives]
            go_simp
            exact ⟨is_mk _ _, Grow.refl _⟩
          case o28 =>
            intro vals wq hRq hpq
            simp only [factsP, List.getD_cons_zero, List.getD_cons_succ] at hpq
            have f26 := hpq.1
            replace hpq := hpq.2
            have f27 := hpq.1
            replace hpq := hpq.2
            clear hpq
            replace f26 : vals 26 = _ := f26
            replace f27 : vals 27 = _ := f27
            simp only [List.getD_cons_zero, List.getD_cons_succ, canonP, f26, f27]
            clear f26 f27
            simp only [Oper.gives]
            go_simp
            exact ⟨is_mk _ _, Grow.refl _⟩
          case o29 =>
            intro vals wq hRq hpq
            simp only [factsP, List.getD_cons_zero, List.getD_cons_succ] at hpq
            have f26 := hpq.1
            replace hpq := hpq.2
            have f28 := hpq.1
            replace hpq := hpq.2
            clear hpq
            replace f26 : vals 26 = _ := f26
            replace f28 : vals 28 = _ := f28
            simp only [List.getD_cons_zero, List.getD_cons_succ, canonP, f26, f28]
            clear f26 f28
            have hcc := (Below.cell ((Grow.drew _).trans hRq) (p := ⟨BC, 5, none⟩) HSZ.out).trans HK5.out
            simp only [Oper.gives]
            go_simp
            exact ⟨is_mk _ _, Grow.refl _⟩
          case o30 =>
            intro vals wq hRq hpq
            simp only [factsP, List.getD_cons_zero, List.getD_cons_succ] at hpq
            have f26 := hpq.1
            replace hpq := hpq.2
            clear hpq
            replace f26 : vals 26 = _ := f26
            simp only [List.getD_cons_zero, List.getD_cons_succ, canonP, f26]
            clear f26
            simp only [Oper.gives]
            go_simp
            exact ⟨is_mk _ _, Grow.refl _⟩
          case o31 =>
            intro vals wq hRq hpq
            simp only [factsP, List.getD_cons_zero, List.getD_cons_succ] at hpq
            have f26 := hpq.1
            replace hpq := hpq.2
            have f30 := hpq.1
            replace hpq := hpq.2
            clear hpq
            replace f26 : vals 26 = _ := f26
            replace f30 : vals 30 = _ := f30
            simp only [List.getD_cons_zero, List.getD_cons_succ, canonP, f26, f30]
            clear f26 f30
            have hb4 := HGB.out.trans ((Grow.drew _).trans hRq)
            have c0 := (box_at hb4).1
            have c1 := (box_at hb4).2.1
            have c2 := (box_at hb4).2.2.1
            have c3 := (box_at hb4).2.2.2
            simp only [Oper.gives]
            go_simp
            exact ⟨is_mk _ _, Grow.refl _⟩
          case o32 =>
            intro vals wq hRq hpq
            simp only [factsP, List.getD_cons_zero, List.getD_cons_succ] at hpq
            have f26 := hpq.1
            replace hpq := hpq.2
            have f29 := hpq.1
            replace hpq := hpq.2
            have f31 := hpq.1
            replace hpq := hpq.2
            clear hpq
            replace f26 : vals 26 = _ := f26
            replace f29 : vals 29 = _ := f29
            replace f31 : vals 31 = _ := f31
            simp only [List.getD_cons_zero, List.getD_cons_succ, canonP, f26, f29, f31]
            clear f26 f29 f31
            simp only [Oper.gives]
            go_simp
            exact ⟨is_mk _ _, Grow.refl _⟩
          case o33 =>
            intro vals wq hRq hpq
            simp only [factsP, List.getD_cons_zero, List.getD_cons_succ] at hpq
            have f26 := hpq.1
            replace hpq := hpq.2
            have f32 := hpq.1
            replace hpq := hpq.2
            clear hpq
            replace f26 : vals 26 = _ := f26
            replace f32 : vals 32 = _ := f32
            simp only [List.getD_cons_zero, List.getD_cons_succ, canonP, f26, f32]
            clear f26 f32
            simp only [Oper.gives]
            go_simp
            exact ⟨is_mk _ _, Grow.refl _⟩
          case o34 =>
            intro vals wq hRq hpq
            simp only [factsP, List.getD_cons_zero, List.getD_cons_succ] at hpq
            have f26 := hpq.1
            replace hpq := hpq.2
            have f33 := hpq.1
            replace hpq := hpq.2
            clear hpq
            replace f26 : vals 26 = _ := f26
            replace f33 : vals 33 = _ := f33
            simp only [List.getD_cons_zero, List.getD_cons_succ, canonP, f26, f33]
            clear f26 f33
            simp only [Oper.gives]
            go_simp
            exact ⟨is_mk _ _, Grow.refl _⟩
          case o35 =>
            intro vals wq hRq hpq
            simp only [factsP, List.getD_cons_zero, List.getD_cons_succ] at hpq
            have f34 := hpq.1
            replace hpq := hpq.2
            clear hpq
            replace f34 : vals 34 = _ := f34
            simp only [List.getD_cons_zero, List.getD_cons_succ, canonP, f34]
            clear f34
            simp only [Oper.gives]
            go_simp
            exact ⟨is_mk _ _, Grow.refl _⟩
          case o36 =>
            intro vals wq hRq hpq
            simp only [factsP, List.getD_cons_zero, List.getD_cons_succ] at hpq
            have f34 := hpq.1
            replace hpq := hpq.2
            have f35 := hpq.1
            replace hpq := hpq.2
            clear hpq
            replace f34 : vals 34 = _ := f34
            replace f35 : vals 35 = _ := f35
            simp only [List.getD_cons_zero, List.getD_cons_succ, canonP, f34, f35]
            clear f34 f35
            simp only [Oper.gives]
            go_simp
            exact ⟨is_mk _ _, Grow.refl _⟩
          case o37 =>
            intro vals wq hRq hpq
            simp only [factsP, List.getD_cons_zero, List.getD_cons_succ] at hpq
            have f34 := hpq.1
            replace hpq := hpq.2
            have f36 := hpq.1
            replace hpq := hpq.2
            clear hpq
            replace f34 : vals 34 = _ := f34
            replace f36 : vals 36 = _ := f36
            simp only [List.getD_cons_zero, List.getD_cons_succ, canonP, f34, f36]
            clear f34 f36
            have hcc := (Below.cell ((Grow.drew _).trans hRq) (p := ⟨BC, 6, none⟩) HSZ.out).trans HK6.out
            simp only [Oper.gives]
            go_simp
            exact ⟨is_mk _ _, Grow.refl _⟩
          case o38 =>
            intro vals wq hRq hpq
            simp only [factsP, List.getD_cons_zero, List.getD_cons_succ] at hpq
            have f34 := hpq.1
            replace hpq := hpq.2
            have f37 := hpq.1
            replace hpq := hpq.2
            clear hpq
            replace f34 : vals 34 = _ := f34
            replace f37 : vals 37 = _ := f37
            simp only [List.getD_cons_zero, List.getD_cons_succ, canonP, f34, f37]
            clear f34 f37
            have hh0 := E5.out
            simp only [Oper.gives]
            go_simp
            exact ⟨is_mk _ _, Grow.refl _⟩
          case o39 =>
            intro vals wq hRq hpq
            simp only [factsP, List.getD_cons_zero, List.getD_cons_succ] at hpq
            have f34 := hpq.1
            replace hpq := hpq.2
            clear hpq
            replace f34 : vals 34 = _ := f34
            simp only [List.getD_cons_zero, List.getD_cons_succ, canonP, f34]
            clear f34
            have hb4 := HGB.out.trans ((Grow.drew _).trans hRq)
            have c0 := (box_at hb4).1
            have c1 := (box_at hb4).2.1
            have c2 := (box_at hb4).2.2.1
            have c3 := (box_at hb4).2.2.2
            simp only [Oper.gives]
            go_simp
            exact ⟨is_mk _ _, Grow.refl _⟩
          case o40 =>
            intro vals wq hRq hpq
            simp only [factsP, List.getD_cons_zero, List.getD_cons_succ] at hpq
            have f34 := hpq.1
            replace hpq := hpq.2
            have f39 := hpq.1
            replace hpq := hpq.2
            clear hpq
            replace f34 : vals 34 = _ := f34
            replace f39 : vals 39 = _ := f39
            simp only [List.getD_cons_zero, List.getD_cons_succ, canonP, f34, f39]
            clear f34 f39
            simp only [Oper.gives]
            go_simp
            exact (HNL.out wq).mono fun e w' ⟨he, hg⟩ => ⟨_, he, is_mk _ _, hg⟩
          case o41 =>
            intro vals wq hRq hpq
            simp only [factsP, List.getD_cons_zero, List.getD_cons_succ] at hpq
            have f34 := hpq.1
            replace hpq := hpq.2
            have f38 := hpq.1
            replace hpq := hpq.2
            have f40 := hpq.1
            replace hpq := hpq.2
            clear hpq
            replace f34 : vals 34 = _ := f34
            replace f38 : vals 38 = _ := f38
            replace f40 : vals 40 = _ := f40
            simp only [List.getD_cons_zero, List.getD_cons_succ, canonP, f34, f38, f40]
            clear f34 f38 f40
            simp only [Oper.gives]
            go_simp
            exact ⟨is_mk _ _, Grow.refl _⟩
          case o42 =>
            intro vals wq hRq hpq
            simp only [factsP, List.getD_cons_zero, List.getD_cons_succ] at hpq
            have f34 := hpq.1
            replace hpq := hpq.2
            have f41 := hpq.1
            replace hpq := hpq.2
            clear hpq
            replace f34 : vals 34 = _ := f34
            replace f41 : vals 41 = _ := f41
            simp only [List.getD_cons_zero, List.getD_cons_succ, canonP, f34, f41]
            clear f34 f41
            simp only [Oper.gives]
            go_simp
            exact ⟨is_mk _ _, Grow.refl _⟩
          case o43 =>
            intro vals wq hRq hpq
            simp only [factsP, List.getD_cons_zero, List.getD_cons_succ] at hpq
            have f40 := hpq.1
            replace hpq := hpq.2
            have f42 := hpq.1
            replace hpq := hpq.2
            clear hpq
            replace f40 : vals 40 = _ := f40
            replace f42 : vals 42 = _ := f42
            simp only [List.getD_cons_zero, List.getD_cons_succ, canonP, f40, f42]
            clear f40 f42
            simp only [Oper.gives]
            go_simp
            exact ⟨is_mk _ _, Grow.refl _⟩
          case o44 =>
            intro vals wq hRq hpq
            simp only [factsP, List.getD_cons_zero, List.getD_cons_succ] at hpq
            have f43 := hpq.1
            replace hpq := hpq.2
            clear hpq
            replace f43 : vals 43 = _ := f43
            simp only [List.getD_cons_zero, List.getD_cons_succ, canonP, f43]
            clear f43
            simp only [Oper.gives]
            go_simp
            exact ⟨is_mk _ _, Grow.refl _⟩
          case o45 =>
            intro vals wq hRq hpq
            simp only [factsP, List.getD_cons_zero, List.getD_cons_succ] at hpq
            have f43 := hpq.1
            replace hpq := hpq.2
            have f44 := hpq.1
            replace hpq := hpq.2
            clear hpq
            replace f43 : vals 43 = _ := f43
            replace f44 : vals 44 = _ := f44
            simp only [List.getD_cons_zero, List.getD_cons_succ, canonP, f43, f44]
            clear f43 f44
            simp only [Oper.gives]
            go_simp
            exact ⟨is_mk _ _, Grow.refl _⟩
          case o46 =>
            intro vals wq hRq hpq
            simp only [factsP, List.getD_cons_zero, List.getD_cons_succ] at hpq
            have f43 := hpq.1
            replace hpq := hpq.2
            have f45 := hpq.1
            replace hpq := hpq.2
            clear hpq
            replace f43 : vals 43 = _ := f43
            replace f45 : vals 45 = _ := f45
            simp only [List.getD_cons_zero, List.getD_cons_succ, canonP, f43, f45]
            clear f43 f45
            have hcc := (Below.cell ((Grow.drew _).trans hRq) (p := ⟨BC, 7, none⟩) HSZ.out).trans HK7.out
            simp only [Oper.gives]
            go_simp
            exact ⟨is_mk _ _, Grow.refl _⟩
          case o47 =>
            intro vals wq hRq hpq
            simp only [factsP, List.getD_cons_zero, List.getD_cons_succ] at hpq
            have f43 := hpq.1
            replace hpq := hpq.2
            clear hpq
            replace f43 : vals 43 = _ := f43
            simp only [List.getD_cons_zero, List.getD_cons_succ, canonP, f43]
            clear f43
            simp only [Oper.gives]
            go_simp
            exact ⟨is_mk _ _, Grow.refl _⟩
          case o48 =>
            intro vals wq hRq hpq
            simp only [factsP, List.getD_cons_zero, List.getD_cons_succ] at hpq
            have f43 := hpq.1
            replace hpq := hpq.2
            have f47 := hpq.1
            replace hpq := hpq.2
            clear hpq
            replace f43 : vals 43 = _ := f43
            replace f47 : vals 47 = _ := f47
            simp only [List.getD_cons_zero, List.getD_cons_succ, canonP, f43, f47]
            clear f43 f47
            have hb4 := HGB.out.trans ((Grow.drew _).trans hRq)
            have c0 := (box_at hb4).1
            have c1 := (box_at hb4).2.1
            have c2 := (box_at hb4).2.2.1
            have c3 := (box_at hb4).2.2.2
            simp only [Oper.gives]
            go_simp
            exact ⟨is_mk _ _, Grow.refl _⟩
          case o49 =>
            intro vals wq hRq hpq
            simp only [factsP, List.getD_cons_zero, List.getD_cons_succ] at hpq
            have f43 := hpq.1
            replace hpq := hpq.2
            clear hpq
            replace f43 : vals 43 = _ := f43
            simp only [List.getD_cons_zero, List.getD_cons_succ, canonP, f43]
            clear f43
            have hb4 := HGB.out.trans ((Grow.drew _).trans hRq)
            have c0 := (box_at hb4).1
            have c1 := (box_at hb4).2.1
            have c2 := (box_at hb4).2.2.1
            have c3 := (box_at hb4).2.2.2
            simp only [Oper.gives]
            go_simp
            exact ⟨is_mk _ _, Grow.refl _⟩
          case o50 =>
            intro vals wq hRq hpq
            simp only [factsP, List.getD_cons_zero, List.getD_cons_succ] at hpq
            have f43 := hpq.1
            replace hpq := hpq.2
            have f49 := hpq.1
            replace hpq := hpq.2
            clear hpq
            replace f43 : vals 43 = _ := f43
            replace f49 : vals 49 = _ := f49
            simp only [List.getD_cons_zero, List.getD_cons_succ, canonP, f43, f49]
            clear f43 f49
            simp only [Oper.gives]
            go_simp
            exact (HDL.out wq).mono fun e w' ⟨he, hg⟩ => ⟨_, he, is_mk _ _, hg⟩
          case o51 =>
            intro vals wq hRq hpq
            simp only [factsP, List.getD_cons_zero, List.getD_cons_succ] at hpq
            have f43 := hpq.1
            replace hpq := hpq.2
            have f48 := hpq.1
            replace hpq := hpq.2
            have f50 := hpq.1
            replace hpq := hpq.2
            clear hpq
            replace f43 : vals 43 = _ := f43
            replace f48 : vals 48 = _ := f48
            replace f50 : vals 50 = _ := f50
            simp only [List.getD_cons_zero, List.getD_cons_succ, canonP, f43, f48, f50]
            clear f43 f48 f50
            have hh0 := E6.out
            simp only [Oper.gives]
            go_simp
            exact ⟨is_mk _ _, Grow.refl _⟩
          case o52 =>
            intro vals wq hRq hpq
            simp only [factsP, List.getD_cons_zero, List.getD_cons_succ] at hpq
            have f43 := hpq.1
            replace hpq := hpq.2
            have f46 := hpq.1
            replace hpq := hpq.2
            have f51 := hpq.1
            replace hpq := hpq.2
            clear hpq
            replace f43 : vals 43 = _ := f43
            replace f46 : vals 46 = _ := f46
            replace f51 : vals 51 = _ := f51
            simp only [List.getD_cons_zero, List.getD_cons_succ, canonP, f43, f46, f51]
            clear f43 f46 f51
            simp only [Oper.gives]
            go_simp
            exact ⟨is_mk _ _, Grow.refl _⟩
          case o53 =>
            intro vals wq hRq hpq
            simp only [factsP, List.getD_cons_zero, List.getD_cons_succ] at hpq
            have f43 := hpq.1
            replace hpq := hpq.2
            have f52 := hpq.1
            replace hpq := hpq.2
            clear hpq
            replace f43 : vals 43 = _ := f43
            replace f52 : vals 52 = _ := f52
            simp only [List.getD_cons_zero, List.getD_cons_succ, canonP, f43, f52]
            clear f43 f52
            simp only [Oper.gives]
            go_simp
            exact ⟨is_mk _ _, Grow.refl _⟩
          case o54 =>
            intro vals wq hRq hpq
            simp only [factsP, List.getD_cons_zero, List.getD_cons_succ] at hpq
            have f0 := hpq.1
            replace hpq := hpq.2
            have f1 := hpq.1
            replace hpq := hpq.2
            have f2 := hpq.1
            replace hpq := hpq.2
            have f3 := hpq.1
            replace hpq := hpq.2
            have f4 := hpq.1
            replace hpq := hpq.2
            have f5 := hpq.1
            replace hpq := hpq.2
            have f6 := hpq.1
            replace hpq := hpq.2
            have f7 := hpq.1
            replace hpq := hpq.2
            have f8 := hpq.1
            replace hpq := hpq.2
            have f9 := hpq.1
            replace hpq := hpq.2
            have f10 := hpq.1
            replace hpq := hpq.2
            have f11 := hpq.1
            replace hpq := hpq.2
            have f12 := hpq.1
            replace hpq := hpq.2
            have f13 := hpq.1
            replace hpq := hpq.2
            have f14 := hpq.1
            replace hpq := hpq.2
            have f15 := hpq.1
            replace hpq := hpq.2
            have f16 := hpq.1
            replace hpq := hpq.2
            have f17 := hpq.1
            replace hpq := hpq.2
            have f18 := hpq.1
            replace hpq := hpq.2
            have f19 := hpq.1
            replace hpq := hpq.2
            have f20 := hpq.1
            replace hpq := hpq.2
            have f21 := hpq.1
            replace hpq := hpq.2
            have f22 := hpq.1
            replace hpq := hpq.2
            have f23 := hpq.1
            replace hpq := hpq.2
            have f24 := hpq.1
            replace hpq := hpq.2
            have f25 := hpq.1
            replace hpq := hpq.2
            have f26 := hpq.1
            replace hpq := hpq.2
            have f27 := hpq.1
            replace hpq := hpq.2
            have f28 := hpq.1
            replace hpq := hpq.2
            have f29 := hpq.1
            replace hpq := hpq.2
            have f30 := hpq.1
            replace hpq := hpq.2
            have f31 := hpq.1
            replace hpq := hpq.2
            have f32 := hpq.1
            replace hpq := hpq.2
            have f33 := hpq.1
            replace hpq := hpq.2
            have f34 := hpq.1
            replace hpq := hpq.2
            have f35 := hpq.1
            replace hpq := hpq.2
            have f36 := hpq.1
            replace hpq := hpq.2
            have f37 := hpq.1
            replace hpq := hpq.2
            have f38 := hpq.1
            replace hpq := hpq.2
            have f39 := hpq.1
            replace hpq := hpq.2
            have f40 := hpq.1
            replace hpq := hpq.2
            have f41 := hpq.1
            replace hpq := hpq.2
            have f42 := hpq.1
            replace hpq := hpq.2
            have f43 := hpq.1
            replace hpq := hpq.2
            have f44 := hpq.1
            replace hpq := hpq.2
            have f45 := hpq.1
            replace hpq := hpq.2
            have f46 := hpq.1
            replace hpq := hpq.2
            have f47 := hpq.1
            replace hpq := hpq.2
            have f48 := hpq.1
            replace hpq := hpq.2
            have f49 := hpq.1
            replace hpq := hpq.2
            have f50 := hpq.1
            replace hpq := hpq.2
            have f51 := hpq.1
            replace hpq := hpq.2
            have f52 := hpq.1
            replace hpq := hpq.2
            have f53 := hpq.1
            replace hpq := hpq.2
            clear hpq
            replace f0 : vals 0 = _ := f0
            replace f1 : vals 1 = _ := f1
            replace f2 : vals 2 = _ := f2
            replace f3 : vals 3 = _ := f3
            replace f4 : vals 4 = _ := f4
            replace f5 : vals 5 = _ := f5
            replace f6 : vals 6 = _ := f6
            replace f7 : vals 7 = _ := f7
            replace f8 : vals 8 = _ := f8
            replace f9 : vals 9 = _ := f9
            replace f10 : vals 10 = _ := f10
            replace f11 : vals 11 = _ := f11
            replace f12 : vals 12 = _ := f12
            replace f13 : vals 13 = _ := f13
            replace f14 : vals 14 = _ := f14
            replace f15 : vals 15 = _ := f15
            replace f16 : vals 16 = _ := f16
            replace f17 : vals 17 = _ := f17
            replace f18 : vals 18 = _ := f18
            replace f19 : vals 19 = _ := f19
            replace f20 : vals 20 = _ := f20
            replace f21 : vals 21 = _ := f21
            replace f22 : vals 22 = _ := f22
            replace f23 : vals 23 = _ := f23
            replace f24 : vals 24 = _ := f24
            replace f25 : vals 25 = _ := f25
            replace f26 : vals 26 = _ := f26
            replace f27 : vals 27 = _ := f27
            replace f28 : vals 28 = _ := f28
            replace f29 : vals 29 = _ := f29
            replace f30 : vals 30 = _ := f30
            replace f31 : vals 31 = _ := f31
            replace f32 : vals 32 = _ := f32
            replace f33 : vals 33 = _ := f33
            replace f34 : vals 34 = _ := f34
            replace f35 : vals 35 = _ := f35
            replace f36 : vals 36 = _ := f36
            replace f37 : vals 37 = _ := f37
            replace f38 : vals 38 = _ := f38
            replace f39 : vals 39 = _ := f39
            replace f40 : vals 40 = _ := f40
            replace f41 : vals 41 = _ := f41
            replace f42 : vals 42 = _ := f42
            replace f43 : vals 43 = _ := f43
            replace f44 : vals 44 = _ := f44
            replace f45 : vals 45 = _ := f45
            replace f46 : vals 46 = _ := f46
            replace f47 : vals 47 = _ := f47
            replace f48 : vals 48 = _ := f48
            replace f49 : vals 49 = _ := f49
            replace f50 : vals 50 = _ := f50
            replace f51 : vals 51 = _ := f51
            replace f52 : vals 52 = _ := f52
            replace f53 : vals 53 = _ := f53
            simp only [List.getD_cons_zero, List.getD_cons_succ, canonP, f0, f1, f2, f3, f4, f5, f6, f7, f8, f9, f10, f11, f12, f13, f14, f15, f16, f17, f18, f19, f20, f21, f22, f23, f24, f25, f26, f27, f28, f29, f30, f31, f32, f33, f34, f35, f36, f37, f38, f39, f40, f41, f42, f43, f44, f45, f46, f47, f48, f49, f50, f51, f52, f53]
            clear f0 f1 f2 f3 f4 f5 f6 f7 f8 f9 f10 f11 f12 f13 f14 f15 f16 f17 f18 f19 f20 f21 f22 f23 f24 f25 f26 f27 f28 f29 f30 f31 f32 f33 f34 f35 f36 f37 f38 f39 f40 f41 f42 f43 f44 f45 f46 f47 f48 f49 f50 f51 f52 f53
            simp only [Oper.gives]
            go_simp
            exact ⟨is_mk _ _, Grow.refl _⟩
          intro vals wx hRwx hfwx
          simp only [AllFacts] at hfwx
          have g0 := hfwx.1
          replace hfwx := hfwx.2
          have g1 := hfwx.1
          replace hfwx := hfwx.2
          have g2 := hfwx.1
          replace hfwx := hfwx.2
          have g3 := hfwx.1
          replace hfwx := hfwx.2
          have g4 := hfwx.1
          replace hfwx := hfwx.2
          have g5 := hfwx.1
          replace hfwx := hfwx.2
          have g6 := hfwx.1
          replace hfwx := hfwx.2
          have g7 := hfwx.1
          replace hfwx := hfwx.2
          have g8 := hfwx.1
          replace hfwx := hfwx.2
          have g9 := hfwx.1
          replace hfwx := hfwx.2
          have g10 := hfwx.1
          replace hfwx := hfwx.2
          have g11 := hfwx.1
          replace hfwx := hfwx.2
          have g12 := hfwx.1
          replace hfwx := hfwx.2
          have g13 := hfwx.1
          replace hfwx := hfwx.2
          have g14 := hfwx.1
          replace hfwx := hfwx.2
          have g15 := hfwx.1
          replace hfwx := hfwx.2
          have g16 := hfwx.1
          replace hfwx := hfwx.2
          have g17 := hfwx.1
          replace hfwx := hfwx.2
          have g18 := hfwx.1
          replace hfwx := hfwx.2
          have g19 := hfwx.1
          replace hfwx := hfwx.2
          have g20 := hfwx.1
          replace hfwx := hfwx.2
          have g21 := hfwx.1
          replace hfwx := hfwx.2
          have g22 := hfwx.1
          replace hfwx := hfwx.2
          have g23 := hfwx.1
          replace hfwx := hfwx.2
          have g24 := hfwx.1
          replace hfwx := hfwx.2
          have g25 := hfwx.1
          replace hfwx := hfwx.2
          have g26 := hfwx.1
          replace hfwx := hfwx.2
          have g27 := hfwx.1
          replace hfwx := hfwx.2
          have g28 := hfwx.1
          replace hfwx := hfwx.2
          have g29 := hfwx.1
          replace hfwx := hfwx.2
          have g30 := hfwx.1
          replace hfwx := hfwx.2
          have g31 := hfwx.1
          replace hfwx := hfwx.2
          have g32 := hfwx.1
          replace hfwx := hfwx.2
          have g33 := hfwx.1
          replace hfwx := hfwx.2
          have g34 := hfwx.1
          replace hfwx := hfwx.2
          have g35 := hfwx.1
          replace hfwx := hfwx.2
          have g36 := hfwx.1
          replace hfwx := hfwx.2
          have g37 := hfwx.1
          replace hfwx := hfwx.2
          have g38 := hfwx.1
          replace hfwx := hfwx.2
          have g39 := hfwx.1
          replace hfwx := hfwx.2
          have g40 := hfwx.1
          replace hfwx := hfwx.2
          have g41 := hfwx.1
          replace hfwx := hfwx.2
          have g42 := hfwx.1
          replace hfwx := hfwx.2
          have g43 := hfwx.1
          replace hfwx := hfwx.2
          have g44 := hfwx.1
          replace hfwx := hfwx.2
          have g45 := hfwx.1
          replace hfwx := hfwx.2
          have g46 := hfwx.1
          replace hfwx := hfwx.2
          have g47 := hfwx.1
          replace hfwx := hfwx.2
          have g48 := hfwx.1
          replace hfwx := hfwx.2
          have g49 := hfwx.1
          replace hfwx := hfwx.2
          have g50 := hfwx.1
          replace hfwx := hfwx.2
          have g51 := hfwx.1
          replace hfwx := hfwx.2
          have g52 := hfwx.1
          replace hfwx := hfwx.2
          have g53 := hfwx.1
          replace hfwx := hfwx.2
          have g54 := hfwx.1
          replace hfwx := hfwx.2
          clear hfwx
          replace g0 : vals 0 = _ := g0
          replace g1 : vals 1 = _ := g1
          replace g2 : vals 2 = _ := g2
          replace g3 : vals 3 = _ := g3
          replace g4 : vals 4 = _ := g4
          replace g5 : vals 5 = _ := g5
          replace g6 : vals 6 = _ := g6
          replace g7 : vals 7 = _ := g7
          replace g8 : vals 8 = _ := g8
          replace g9 : vals 9 = _ := g9
          replace g10 : vals 10 = _ := g10
          replace g11 : vals 11 = _ := g11
          replace g12 : vals 12 = _ := g12
          replace g13 : vals 13 = _ := g13
          replace g14 : vals 14 = _ := g14
          replace g15 : vals 15 = _ := g15
          replace g16 : vals 16 = _ := g16
          replace g17 : vals 17 = _ := g17
          replace g18 : vals 18 = _ := g18
          replace g19 : vals 19 = _ := g19
          replace g20 : vals 20 = _ := g20
          replace g21 : vals 21 = _ := g21
          replace g22 : vals 22 = _ := g22
          replace g23 : vals 23 = _ := g23
          replace g24 : vals 24 = _ := g24
          replace g25 : vals 25 = _ := g25
          replace g26 : vals 26 = _ := g26
          replace g27 : vals 27 = _ := g27
          replace g28 : vals 28 = _ := g28
          replace g29 : vals 29 = _ := g29
          replace g30 : vals 30 = _ := g30
          replace g31 : vals 31 = _ := g31
          replace g32 : vals 32 = _ := g32
          replace g33 : vals 33 = _ := g33
          replace g34 : vals 34 = _ := g34
          replace g35 : vals 35 = _ := g35
          replace g36 : vals 36 = _ := g36
          replace g37 : vals 37 = _ := g37
          replace g38 : vals 38 = _ := g38
          replace g39 : vals 39 = _ := g39
          replace g40 : vals 40 = _ := g40
          replace g41 : vals 41 = _ := g41
          replace g42 : vals 42 = _ := g42
          replace g43 : vals 43 = _ := g43
          replace g44 : vals 44 = _ := g44
          replace g45 : vals 45 = _ := g45
          replace g46 : vals 46 = _ := g46
          replace g47 : vals 47 = _ := g47
          replace g48 : vals 48 = _ := g48
          replace g49 : vals 49 = _ := g49
          replace g50 : vals 50 = _ := g50
          replace g51 : vals 51 = _ := g51
          replace g52 : vals 52 = _ := g52
          replace g53 : vals 53 = _ := g53
          replace g54 : vals 54 = _ := g54
          simp only [canonP, Act.put, List.setIfInBounds_toArray, List.set_cons_succ, List.set_cons_zero, g0, g1, g2, g3, g4, g5, g6, g7, g8, g9, g10, g11, g12, g13, g14, g15, g16, g17, g18, g19, g20, g21, g22, g23, g24, g25, g26, g27, g28, g29, g30, g31, g32, g33, g34, g35, g36, g37, g38, g39, g40, g41, g42, g43, g44, g45, g46, g47, g48, g49, g50, g51, g52, g53, g54]
          clear g0 g1 g2 g3 g4 g5 g6 g7 g8 g9 g10 g11 g12 g13 g14 g15 g16 g17 g18 g19 g20 g21 g22 g23 g24 g25 g26 g27 g28 g29 g30 g31 g32 g33 g34 g35 g36 g37 g38 g39 g40 g41 g42 g43 g44 g45 g46 g47 g48 g49 g50 g51 g52 g53 g54
          go_wp2_with fail
          go_ret
          exact ⟨rfl, (Grow.alloc _ _).trans (HGB.out.trans ((Grow.drew _).trans hRwx))⟩
#print axioms all_may
set_option maxRecDepth 100000 in
set_option maxHeartbeats 2000000 in
theorem all_no (gr sz ni jr : Int) (h : ¬ May gr sz ni jr) (w : World) :
    Calls Try.prog 5 #[gv gr sz ni jr] w fun e w' => e = .returned (.bool true) ∧ Below w.heap.size w w' := by
  have HM := Lib.hid h
  have HBL := Lib.hid (show nBlocks gr sz ni jr = 0 from if_neg h)
  have HNL := Lib.hid (show nInodes gr sz ni jr = 0 from if_neg h)
  have HDL := Lib.hid (show nData gr sz ni jr = 0 from if_neg h)
  clear h
  go_enter Try.func5, Try.ntmps5
  go_wp2_with fail
  refine (awake_ok _).mono ?_
  rintro e w1 ⟨rfl, hg1⟩
  obtain ⟨c0, c1, c2, c3⟩ := box_at hg1
  have HG1 := Lib.hid hg1
  clear hg1
  go_wp2_with fail
  refine (may_no gr sz ni jr HM.out _).mono ?_
  rintro e w2 ⟨rfl, hg2⟩
  have HG2 := Lib.hid (HG1.out.trans hg2)
  clear hg2 c0 c1 c2 c3
  obtain ⟨c0, c1, c2, c3⟩ := box_at HG2.out
  go_wp2_with fail
  refine (blocks_any gr sz ni jr _).mono ?_
  rintro e w3 ⟨rfl, hg2⟩
  rw [HBL.out]
  have HG3 := Lib.hid (HG2.out.trans hg2)
  clear hg2 c0 c1 c2 c3
  obtain ⟨c0, c1, c2, c3⟩ := box_at HG3.out
  go_wp2_with fail
  refine (inodes_any gr sz ni jr _).mono ?_
  rintro e w4 ⟨rfl, hg2⟩
  rw [HNL.out]
  have HG4 := Lib.hid (HG3.out.trans hg2)
  clear hg2 c0 c1 c2 c3
  obtain ⟨c0, c1, c2, c3⟩ := box_at HG4.out
  go_wp2_with fail
  refine (data_any gr sz ni jr _).mono ?_
  rintro e w5 ⟨rfl, hg2⟩
  rw [HDL.out]
  have HG5 := Lib.hid (HG4.out.trans hg2)
  clear hg2 c0 c1 c2 c3
  go_wp2_with fail
  go_ret
  exact ⟨rfl, (Grow.alloc _ _).trans HG5.out⟩
theorem all_walk (gr sz ni jr : Int) (w : World) :
    Calls Try.prog 5 #[gv gr sz ni jr] w fun e w' => e = .returned (.bool true) ∧ Below w.heap.size w w' := by
  by_cases h : May gr sz ni jr
  · obtain ⟨a, b, c, d, rfl, rfl, rfl, rfl⟩ := may_nat h
    exact all_may a b c d h w
  · exact all_no gr sz ni jr h w
#print axioms all_walk
end Go.Proofs.Ytgakdaohhbdjoaa
