/- quernref15.Same, quernref18.SameAll: their regions. -/
import Derived.Test.YtlhhbkpocpnebaaP20
set_option linter.unusedVariables false
set_option linter.unusedSimpArgs false
namespace Go.Proofs.Ytlhhbkpocpnebaa
open Go.RowKit Go.Maps

noncomputable def same15_reg6Code : Code := regById 6 (codesOf (Try.f37.body.getD .skip))
set_option maxRecDepth 100000 in
set_option maxHeartbeats 4000000 in
theorem same15_reg6 (k n PA PB ga ka gb kb : Nat) (c : Cp) (W1 : World) (hk : k < n) (hnb : n ≤ 1000000) (HA : Hid (PA < W1.heap.size ∧ W1.cell? ⟨PA, 1, none⟩ = some (.slice (some ⟨ga, 0, none⟩) n ka))) (HB : Hid (PB < W1.heap.size ∧ W1.cell? ⟨PB, 1, none⟩ = some (.slice (some ⟨gb, 0, none⟩) n kb))) (HCL : Hid (c.2.length = 256)) (HRA : Hid (ga < W1.heap.size ∧ W1.rangeAt ga (k * 257) (ccell c))) (HRB : Hid (gb < W1.heap.size ∧ W1.rangeAt gb (k * 257) (ccell c))) (X : Array Value) (HX : Hid ((ccell c).toArray = X)) (HE : Hid (∀ w, (binOp .neq 40 (.agg X) (.agg X)).run Try.prog w = .ok (.bool false) w))
    (s0 s1 s4 s6 s7 s8 s9 s10 s11 s12 s13 s14 s15 s16 s17 s18 s19 s20 s21 s22 s23 s24 s25 s26 s27 s28 s29 s30 s31 s32 s33 s34 s35 s36 s37 s38 s39 s40 s41 s42 s43 s44 s45 s46 s47 s48 s49 s50 s51 s52 s53 s54 s55 s56 s57 s58 s59 s60 s61 s62 s63 s64 s65 : Value) (Q : Exit → Act → World → Prop) (HK : Hid (∀ u37 u38 u39 u40 u41 u42 u43 u44 u45 u46 wz, Touch [] W1 wz → Q .normal ⟨(s0 :: s1 :: .pointer (some ⟨PA, 0, none⟩) :: .pointer (some ⟨PB, 0, none⟩) :: s4 :: .int .i64 (k : Int) :: s6 :: s7 :: s8 :: s9 :: s10 :: s11 :: s12 :: s13 :: s14 :: s15 :: s16 :: s17 :: s18 :: s19 :: s20 :: s21 :: s22 :: s23 :: s24 :: s25 :: s26 :: s27 :: s28 :: s29 :: s30 :: s31 :: s32 :: s33 :: s34 :: s35 :: s36 :: u37 :: u38 :: u39 :: u40 :: u41 :: u42 :: u43 :: u44 :: u45 :: u46 :: .bool false :: s48 :: s49 :: s50 :: s51 :: s52 :: s53 :: s54 :: s55 :: s56 :: s57 :: s58 :: s59 :: s60 :: s61 :: s62 :: s63 :: s64 :: s65 :: []).toArray, []⟩ wz)) : same15_reg6Code.wp Try.prog Q ⟨(s0 :: s1 :: .pointer (some ⟨PA, 0, none⟩) :: .pointer (some ⟨PB, 0, none⟩) :: s4 :: .int .i64 (k : Int) :: s6 :: s7 :: s8 :: s9 :: s10 :: s11 :: s12 :: s13 :: s14 :: s15 :: s16 :: s17 :: s18 :: s19 :: s20 :: s21 :: s22 :: s23 :: s24 :: s25 :: s26 :: s27 :: s28 :: s29 :: s30 :: s31 :: s32 :: s33 :: s34 :: s35 :: s36 :: s37 :: s38 :: s39 :: s40 :: s41 :: s42 :: s43 :: s44 :: s45 :: s46 :: s47 :: s48 :: s49 :: s50 :: s51 :: s52 :: s53 :: s54 :: s55 :: s56 :: s57 :: s58 :: s59 :: s60 :: s61 :: s62 :: s63 :: s64 :: s65 :: []).toArray, []⟩ W1 := by
  have b0 : (0 : Int) ≤ (k : Int) := by omega
  have b1 : (k : Int) < (n : Int) := by omega
  conv => arg 2; whnf
  refine wp_region_facts (by kernel_rfl) [[], [(0, some 37)], [], [(1, some 38), (2, some 39)], [(3, some 40)], [], [(5, some 42)], [], [(6, some 43), (7, some 44)], [(8, some 45)], [(4, some 41), (9, some 46)]] [(0, some 37), (1, some 38), (2, some 39), (3, some 40), (4, some 41), (5, some 42), (6, some 43), (7, some 44), (8, some 45), (9, some 46), (10, some 47)] (by kernel_rfl) (by kernel_rfl) (by kernel_rfl) (Touch []) (Touch.refl []) (fun _ _ _ h h' => h.trans h' (fun i hi => .inl hi)) [Is (Value.pointer (some ⟨PA, 1, none⟩)), Is (Value.slice (some ⟨ga, 0, none⟩) n ka), Is (Value.int .i64 (k : Int)), Is (Value.pointer (some ⟨ga, k * 257, none⟩)), Is (Value.agg X), Is (Value.pointer (some ⟨PB, 1, none⟩)), Is (Value.slice (some ⟨gb, 0, none⟩) n kb), Is (Value.int .i64 (k : Int)), Is (Value.pointer (some ⟨gb, k * 257, none⟩)), Is (Value.agg X), Is (Value.bool false)] rfl ⟨is_stab _ _, is_stab _ _, is_stab _ _, is_stab _ _, is_stab _ _, is_stab _ _, is_stab _ _, is_stab _ _, is_stab _ _, is_stab _ _, is_stab _ _, trivial⟩ ⟨?o0, ?o1, ?o2, ?o3, ?o4, ?o5, ?o6, ?o7, ?o8, ?o9, ?o10, trivial⟩ ?_
  case o0 =>
    intro vals wq hRq hpq
    simp only [List.getD_cons_zero, List.getD_cons_succ, canonP]
    simp only [Oper.gives]
    go_simp
    exact ⟨is_mk _ _, (Touch.refl []) _⟩
  case o1 =>
    intro vals wq hRq hpq
    simp only [factsP, List.getD_cons_zero, List.getD_cons_succ] at hpq
    have f0 := hpq.1
    replace hpq := hpq.2
    clear hpq
    replace f0 : vals 0 = _ := f0
    simp only [List.getD_cons_zero, List.getD_cons_succ, canonP, f0]
    clear f0
    have hcc : wq.cell? ⟨PA, 1, none⟩ = some (.slice (some ⟨ga, 0, none⟩) n ka) := (Touch.cell ((Touch.drew [] W1).trans hRq (by simp)) (a := ⟨PA, 1, none⟩) HA.out.1 (by simp)).trans HA.out.2
    simp only [Oper.gives]
    go_simp
    exact ⟨is_mk _ _, Touch.refl _ _⟩
  case o2 =>
    intro vals wq hRq hpq
    simp only [List.getD_cons_zero, List.getD_cons_succ, canonP]
    simp only [Oper.gives]
    go_simp
    exact ⟨is_mk _ _, (Touch.refl []) _⟩
  case o3 =>
    intro vals wq hRq hpq
    simp only [factsP, List.getD_cons_zero, List.getD_cons_succ] at hpq
    have f1 := hpq.1
    replace hpq := hpq.2
    have f2 := hpq.1
    replace hpq := hpq.2
    clear hpq
    replace f1 : vals 1 = _ := f1
    replace f2 : vals 2 = _ := f2
    simp only [List.getD_cons_zero, List.getD_cons_succ, canonP, f1, f2]
    clear f1 f2
    simp only [Oper.gives]
    go_simp
    exact ⟨is_mk _ _, (Touch.refl []) _⟩
  case o4 =>
    intro vals wq hRq hpq
    simp only [factsP, List.getD_cons_zero, List.getD_cons_succ] at hpq
    have f3 := hpq.1
    replace hpq := hpq.2
    clear hpq
    replace f3 : vals 3 = _ := f3
    simp only [List.getD_cons_zero, List.getD_cons_succ, canonP, f3]
    clear f3
    have hr : wq.rangeAt ga (k * 257) (ccell c) := fun j u hj => (Touch.cell ((Touch.drew [] W1).trans hRq (by simp)) (a := ⟨ga, k * 257 + j, none⟩) HRA.out.1 (by simp)).trans (HRA.out.2 j u hj)
    rw [if_pos (by rfl)]
    exact gives_load_mid 40 _ rfl ga (k * 257) rfl (ccell c) _ hr Try.underlying40 rfl (csizeL HCL.out) ⟨by rw [HX.out]; exact is_mk _ _, Touch.refl _ _⟩
  case o5 =>
    intro vals wq hRq hpq
    simp only [List.getD_cons_zero, List.getD_cons_succ, canonP]
    simp only [Oper.gives]
    go_simp
    exact ⟨is_mk _ _, (Touch.refl []) _⟩
  case o6 =>
    intro vals wq hRq hpq
    simp only [factsP, List.getD_cons_zero, List.getD_cons_succ] at hpq
    have f5 := hpq.1
    replace hpq := hpq.2
    clear hpq
    replace f5 : vals 5 = _ := f5
    simp only [List.getD_cons_zero, List.getD_cons_succ, canonP, f5]
    clear f5
    have hcc : wq.cell? ⟨PB, 1, none⟩ = some (.slice (some ⟨gb, 0, none⟩) n kb) := (Touch.cell ((Touch.drew [] W1).trans hRq (by simp)) (a := ⟨PB, 1, none⟩) HB.out.1 (by simp)).trans HB.out.2
    simp only [Oper.gives]
    go_simp
    exact ⟨is_mk _ _, Touch.refl _ _⟩
  case o7 =>
    intro vals wq hRq hpq
    simp only [List.getD_cons_zero, List.getD_cons_succ, canonP]
    simp only [Oper.gives]
    go_simp
    exact ⟨is_mk _ _, (Touch.refl []) _⟩
  case o8 =>
    intro vals wq hRq hpq
    simp only [factsP, List.getD_cons_zero, List.getD_cons_succ] at hpq
    have f6 := hpq.1
    replace hpq := hpq.2
    have f7 := hpq.1
    replace hpq := hpq.2
    clear hpq
    replace f6 : vals 6 = _ := f6
    replace f7 : vals 7 = _ := f7
    simp only [List.getD_cons_zero, List.getD_cons_succ, canonP, f6, f7]
    clear f6 f7
    simp only [Oper.gives]
    go_simp
    exact ⟨is_mk _ _, (Touch.refl []) _⟩
  case o9 =>
    intro vals wq hRq hpq
    simp only [factsP, List.getD_cons_zero, List.getD_cons_succ] at hpq
    have f8 := hpq.1
    replace hpq := hpq.2
    clear hpq
    replace f8 : vals 8 = _ := f8
    simp only [List.getD_cons_zero, List.getD_cons_succ, canonP, f8]
    clear f8
    have hr : wq.rangeAt gb (k * 257) (ccell c) := fun j u hj => (Touch.cell ((Touch.drew [] W1).trans hRq (by simp)) (a := ⟨gb, k * 257 + j, none⟩) HRB.out.1 (by simp)).trans (HRB.out.2 j u hj)
    rw [if_pos (by rfl)]
    exact gives_load_mid 40 _ rfl gb (k * 257) rfl (ccell c) _ hr Try.underlying40 rfl (csizeL HCL.out) ⟨by rw [HX.out]; exact is_mk _ _, Touch.refl _ _⟩
  case o10 =>
    intro vals wq hRq hpq
    simp only [factsP, List.getD_cons_zero, List.getD_cons_succ] at hpq
    have f4 := hpq.1
    replace hpq := hpq.2
    have f9 := hpq.1
    replace hpq := hpq.2
    clear hpq
    replace f4 : vals 4 = _ := f4
    replace f9 : vals 9 = _ := f9
    simp only [List.getD_cons_zero, List.getD_cons_succ, canonP, f4, f9]
    clear f4 f9
    rw [if_pos (by rfl)]
    exact gives_binOp .neq 40 _ _ _ rfl _ _ rfl rfl (gC _ _ _ _ _ wq) (HE.out wq) ⟨is_mk _ _, Touch.refl _ _⟩
  intro vals wz hRwz hfwz
  simp only [AllFacts] at hfwz
  have g0 := hfwz.1
  replace hfwz := hfwz.2
  have g1 := hfwz.1
  replace hfwz := hfwz.2
  have g2 := hfwz.1
  replace hfwz := hfwz.2
  have g3 := hfwz.1
  replace hfwz := hfwz.2
  have g4 := hfwz.1
  replace hfwz := hfwz.2
  have g5 := hfwz.1
  replace hfwz := hfwz.2
  have g6 := hfwz.1
  replace hfwz := hfwz.2
  have g7 := hfwz.1
  replace hfwz := hfwz.2
  have g8 := hfwz.1
  replace hfwz := hfwz.2
  have g9 := hfwz.1
  replace hfwz := hfwz.2
  have g10 := hfwz.1
  replace hfwz := hfwz.2
  clear hfwz
  replace g0 : vals 0 = _ := g0
  replace g1 : vals 1 = _ := g1
  replace g2 : vals 2 = _ := g2
  replace g3 : vals 3 = _ := g3
  replace g4 : vals 4 = _ := g4
  replace g5 : vals 5 = _ := g5
  replace g6 : vals 6 = _ := g6
  replace g7 : vals 7 = _ := g7
  replace g8 : vals 8 = _ := g8
  replace g9 : vals 9 = _ := g9
  replace g10 : vals 10 = _ := g10
  simp only [canonP, Act.put, List.setIfInBounds_toArray, List.set_cons_succ, List.set_cons_zero, g0, g1, g2, g3, g4, g5, g6, g7, g8, g9, g10]
  clear g0 g1 g2 g3 g4 g5 g6 g7 g8 g9 g10
  exact HK.out _ _ _ _ _ _ _ _ _ _ _ ((Touch.drew [] W1).trans hRwz (by simp))
#print axioms same15_reg6

noncomputable def same15_reg11Code : Code := regById 11 (codesOf (Try.f37.body.getD .skip))
set_option maxRecDepth 100000 in
set_option maxHeartbeats 4000000 in
theorem same15_reg11 (k n PA PB ga ka gb kb : Nat) (z : Int) (W1 : World) (hk : k < n) (hnb : n ≤ 1000000) (HA : Hid (PA < W1.heap.size ∧ W1.cell? ⟨PA, 2, none⟩ = some (.slice (some ⟨ga, 0, none⟩) n ka))) (HB : Hid (PB < W1.heap.size ∧ W1.cell? ⟨PB, 2, none⟩ = some (.slice (some ⟨gb, 0, none⟩) n kb))) (HRA : Hid (ga < W1.heap.size ∧ W1.cell? ⟨ga, k, none⟩ = some (.int .i64 z))) (HRB : Hid (gb < W1.heap.size ∧ W1.cell? ⟨gb, k, none⟩ = some (.int .i64 z)))
    (s0 s1 s4 s5 s7 s8 s9 s10 s11 s12 s13 s14 s15 s16 s17 s18 s19 s20 s21 s22 s23 s24 s25 s26 s27 s28 s29 s30 s31 s32 s33 s34 s35 s36 s37 s38 s39 s40 s41 s42 s43 s44 s45 s46 s47 s48 s49 s50 s51 s52 s53 s54 s55 s56 s57 s58 s59 s60 s61 s62 s63 s64 s65 : Value) (Q : Exit → Act → World → Prop) (HK : Hid (∀ u55 u56 u57 u58 u59 u60 u61 u62 u63 u64 wz, Touch [] W1 wz → Q .normal ⟨(s0 :: s1 :: .pointer (some ⟨PA, 0, none⟩) :: .pointer (some ⟨PB, 0, none⟩) :: s4 :: s5 :: .int .i64 (k : Int) :: s7 :: s8 :: s9 :: s10 :: s11 :: s12 :: s13 :: s14 :: s15 :: s16 :: s17 :: s18 :: s19 :: s20 :: s21 :: s22 :: s23 :: s24 :: s25 :: s26 :: s27 :: s28 :: s29 :: s30 :: s31 :: s32 :: s33 :: s34 :: s35 :: s36 :: s37 :: s38 :: s39 :: s40 :: s41 :: s42 :: s43 :: s44 :: s45 :: s46 :: s47 :: s48 :: s49 :: s50 :: s51 :: s52 :: s53 :: s54 :: u55 :: u56 :: u57 :: u58 :: u59 :: u60 :: u61 :: u62 :: u63 :: u64 :: .bool false :: []).toArray, []⟩ wz)) : same15_reg11Code.wp Try.prog Q ⟨(s0 :: s1 :: .pointer (some ⟨PA, 0, none⟩) :: .pointer (some ⟨PB, 0, none⟩) :: s4 :: s5 :: .int .i64 (k : Int) :: s7 :: s8 :: s9 :: s10 :: s11 :: s12 :: s13 :: s14 :: s15 :: s16 :: s17 :: s18 :: s19 :: s20 :: s21 :: s22 :: s23 :: s24 :: s25 :: s26 :: s27 :: s28 :: s29 :: s30 :: s31 :: s32 :: s33 :: s34 :: s35 :: s36 :: s37 :: s38 :: s39 :: s40 :: s41 :: s42 :: s43 :: s44 :: s45 :: s46 :: s47 :: s48 :: s49 :: s50 :: s51 :: s52 :: s53 :: s54 :: s55 :: s56 :: s57 :: s58 :: s59 :: s60 :: s61 :: s62 :: s63 :: s64 :: s65 :: []).toArray, []⟩ W1 := by
  have b0 : (0 : Int) ≤ (k : Int) := by omega
  have b1 : (k : Int) < (n : Int) := by omega
  conv => arg 2; whnf
  refine wp_region_facts (by kernel_rfl) [[], [(0, some 55)], [], [(1, some 56), (2, some 57)], [(3, some 58)], [], [(5, some 60)], [], [(6, some 61), (7, some 62)], [(8, some 63)], [(4, some 59), (9, some 64)]] [(0, some 55), (1, some 56), (2, some 57), (3, some 58), (4, some 59), (5, some 60), (6, some 61), (7, some 62), (8, some 63), (9, some 64), (10, some 65)] (by kernel_rfl) (by kernel_rfl) (by kernel_rfl) (Touch []) (Touch.refl []) (fun _ _ _ h h' => h.trans h' (fun i hi => .inl hi)) [Is (Value.pointer (some ⟨PA, 2, none⟩)), Is (Value.slice (some ⟨ga, 0, none⟩) n ka), Is (Value.int .i64 (k : Int)), Is (Value.pointer (some ⟨ga, k, none⟩)), Is (Value.int .i64 z), Is (Value.pointer (some ⟨PB, 2, none⟩)), Is (Value.slice (some ⟨gb, 0, none⟩) n kb), Is (Value.int .i64 (k : Int)), Is (Value.pointer (some ⟨gb, k, none⟩)), Is (Value.int .i64 z), Is (Value.bool false)] rfl ⟨is_stab _ _, is_stab _ _, is_stab _ _, is_stab _ _, is_stab _ _, is_stab _ _, is_stab _ _, is_stab _ _, is_stab _ _, is_stab _ _, is_stab _ _, trivial⟩ ⟨?o0, ?o1, ?o2, ?o3, ?o4, ?o5, ?o6, ?o7, ?o8, ?o9, ?o10, trivial⟩ ?_
  case o0 =>
    intro vals wq hRq hpq
    simp only [List.getD_cons_zero, List.getD_cons_succ, canonP]
    simp only [Oper.gives]
    go_simp
    exact ⟨is_mk _ _, (Touch.refl []) _⟩
  case o1 =>
    intro vals wq hRq hpq
    simp only [factsP, List.getD_cons_zero, List.getD_cons_succ] at hpq
    have f0 := hpq.1
    replace hpq := hpq.2
    clear hpq
    replace f0 : vals 0 = _ := f0
    simp only [List.getD_cons_zero, List.getD_cons_succ, canonP, f0]
    clear f0
    have hcc : wq.cell? ⟨PA, 2, none⟩ = some (.slice (some ⟨ga, 0, none⟩) n ka) := (Touch.cell ((Touch.drew [] W1).trans hRq (by simp)) (a := ⟨PA, 2, none⟩) HA.out.1 (by simp)).trans HA.out.2
    simp only [Oper.gives]
    go_simp
    exact ⟨is_mk _ _, Touch.refl _ _⟩
  case o2 =>
    intro vals wq hRq hpq
    simp only [List.getD_cons_zero, List.getD_cons_succ, canonP]
    simp only [Oper.gives]
    go_simp
    exact ⟨is_mk _ _, (Touch.refl []) _⟩
  case o3 =>
    intro vals wq hRq hpq
    simp only [factsP, List.getD_cons_zero, List.getD_cons_succ] at hpq
    have f1 := hpq.1
    replace hpq := hpq.2
    have f2 := hpq.1
    replace hpq := hpq.2
    clear hpq
    replace f1 : vals 1 = _ := f1
    replace f2 : vals 2 = _ := f2
    simp only [List.getD_cons_zero, List.getD_cons_succ, canonP, f1, f2]
    clear f1 f2
    simp only [Oper.gives]
    go_simp
    exact ⟨is_mk _ _, (Touch.refl []) _⟩
  case o4 =>
    intro vals wq hRq hpq
    simp only [factsP, List.getD_cons_zero, List.getD_cons_succ] at hpq
    have f3 := hpq.1
    replace hpq := hpq.2
    clear hpq
    replace f3 : vals 3 = _ := f3
    simp only [List.getD_cons_zero, List.getD_cons_succ, canonP, f3]
    clear f3
    have hcc : wq.cell? ⟨ga, k, none⟩ = some (.int .i64 z) := (Touch.cell ((Touch.drew [] W1).trans hRq (by simp)) (a := ⟨ga, k, none⟩) HRA.out.1 (by simp)).trans HRA.out.2
    simp only [Oper.gives]
    go_simp
    exact ⟨is_mk _ _, Touch.refl _ _⟩
  case o5 =>
    intro vals wq hRq hpq
    simp only [List.getD_cons_zero, List.getD_cons_succ, canonP]
    simp only [Oper.gives]
    go_simp
    exact ⟨is_mk _ _, (Touch.refl []) _⟩
  case o6 =>
    intro vals wq hRq hpq
    simp only [factsP, List.getD_cons_zero, List.getD_cons_succ] at hpq
    have f5 := hpq.1
    replace hpq := hpq.2
    clear hpq
    replace f5 : vals 5 = _ := f5
    simp only [List.getD_cons_zero, List.getD_cons_succ, canonP, f5]
    clear f5
    have hcc : wq.cell? ⟨PB, 2, none⟩ = some (.slice (some ⟨gb, 0, none⟩) n kb) := (Touch.cell ((Touch.drew [] W1).trans hRq (by simp)) (a := ⟨PB, 2, none⟩) HB.out.1 (by simp)).trans HB.out.2
    simp only [Oper.gives]
    go_simp
    exact ⟨is_mk _ _, Touch.refl _ _⟩
  case o7 =>
    intro vals wq hRq hpq
    simp only [List.getD_cons_zero, List.getD_cons_succ, canonP]
    simp only [Oper.gives]
    go_simp
    exact ⟨is_mk _ _, (Touch.refl []) _⟩
  case o8 =>
    intro vals wq hRq hpq
    simp only [factsP, List.getD_cons_zero, List.getD_cons_succ] at hpq
    have f6 := hpq.1
    replace hpq := hpq.2
    have f7 := hpq.1
    replace hpq := hpq.2
    clear hpq
    replace f6 : vals 6 = _ := f6
    replace f7 : vals 7 = _ := f7
    simp only [List.getD_cons_zero, List.getD_cons_succ, canonP, f6, f7]
    clear f6 f7
    simp only [Oper.gives]
    go_simp
    exact ⟨is_mk _ _, (Touch.refl []) _⟩
  case o9 =>
    intro vals wq hRq hpq
    simp only [factsP, List.getD_cons_zero, List.getD_cons_succ] at hpq
    have f8 := hpq.1
    replace hpq := hpq.2
    clear hpq
    replace f8 : vals 8 = _ := f8
    simp only [List.getD_cons_zero, List.getD_cons_succ, canonP, f8]
    clear f8
    have hcc : wq.cell? ⟨gb, k, none⟩ = some (.int .i64 z) := (Touch.cell ((Touch.drew [] W1).trans hRq (by simp)) (a := ⟨gb, k, none⟩) HRB.out.1 (by simp)).trans HRB.out.2
    simp only [Oper.gives]
    go_simp
    exact ⟨is_mk _ _, Touch.refl _ _⟩
  case o10 =>
    intro vals wq hRq hpq
    simp only [factsP, List.getD_cons_zero, List.getD_cons_succ] at hpq
    have f4 := hpq.1
    replace hpq := hpq.2
    have f9 := hpq.1
    replace hpq := hpq.2
    clear hpq
    replace f4 : vals 4 = _ := f4
    replace f9 : vals 9 = _ := f9
    simp only [List.getD_cons_zero, List.getD_cons_succ, canonP, f4, f9]
    clear f4 f9
    simp only [Oper.gives]
    go_simp
    exact ⟨is_mk _ _, (Touch.refl []) _⟩
  intro vals wz hRwz hfwz
  simp only [AllFacts] at hfwz
  have g0 := hfwz.1
  replace hfwz := hfwz.2
  have g1 := hfwz.1
  replace hfwz := hfwz.2
  have g2 := hfwz.1
  replace hfwz := hfwz.2
  have g3 := hfwz.1
  replace hfwz := hfwz.2
  have g4 := hfwz.1
  replace hfwz := hfwz.2
  have g5 := hfwz.1
  replace hfwz := hfwz.2
  have g6 := hfwz.1
  replace hfwz := hfwz.2
  have g7 := hfwz.1
  replace hfwz := hfwz.2
  have g8 := hfwz.1
  replace hfwz := hfwz.2
  have g9 := hfwz.1
  replace hfwz := hfwz.2
  have g10 := hfwz.1
  replace hfwz := hfwz.2
  clear hfwz
  replace g0 : vals 0 = _ := g0
  replace g1 : vals 1 = _ := g1
  replace g2 : vals 2 = _ := g2
  replace g3 : vals 3 = _ := g3
  replace g4 : vals 4 = _ := g4
  replace g5 : vals 5 = _ := g5
  replace g6 : vals 6 = _ := g6
  replace g7 : vals 7 = _ := g7
  replace g8 : vals 8 = _ := g8
  replace g9 : vals 9 = _ := g9
  replace g10 : vals 10 = _ := g10
  simp only [canonP, Act.put, List.setIfInBounds_toArray, List.set_cons_succ, List.set_cons_zero, g0, g1, g2, g3, g4, g5, g6, g7, g8, g9, g10]
  clear g0 g1 g2 g3 g4 g5 g6 g7 g8 g9 g10
  exact HK.out _ _ _ _ _ _ _ _ _ _ _ ((Touch.drew [] W1).trans hRwz (by simp))
#print axioms same15_reg11

noncomputable def sameall_reg6Code : Code := regById 6 (codesOf (Try.f17.body.getD .skip))
set_option maxRecDepth 100000 in
set_option maxHeartbeats 4000000 in
theorem sameall_reg6 (k n ga ka gb kb s nx cx mx dx ny cy my dy : Nat) (ax bx ay by_ : Option Addr) (W1 : World) (hk : k < n) (hnb : n ≤ 1000000) (HA0 : Hid (ga < W1.heap.size ∧ W1.cell? ⟨ga, k * 3, none⟩ = some (.int .u32 (s : Int)))) (HA1 : Hid (ga < W1.heap.size ∧ W1.cell? ⟨ga, k * 3 + 1, none⟩ = some (.slice ax nx cx))) (HA2 : Hid (ga < W1.heap.size ∧ W1.cell? ⟨ga, k * 3 + 2, none⟩ = some (.slice bx mx dx))) (HB0 : Hid (gb < W1.heap.size ∧ W1.cell? ⟨gb, k * 3, none⟩ = some (.int .u32 (s : Int)))) (HB1 : Hid (gb < W1.heap.size ∧ W1.cell? ⟨gb, k * 3 + 1, none⟩ = some (.slice ay ny cy))) (HB2 : Hid (gb < W1.heap.size ∧ W1.cell? ⟨gb, k * 3 + 2, none⟩ = some (.slice by_ my dy))) (HS : Hid (∀ w', Grow W1 w' → Calls Try.prog 37 #[.agg #[.int .u32 (s : Int), .slice ax nx cx, .slice bx mx dx], .agg #[.int .u32 (s : Int), .slice ay ny cy, .slice by_ my dy]] w' fun e w'' => e = .returned (.bool true) ∧ Grow w' w''))
    (s2 s3 s4 s6 s7 s8 s9 s10 s11 s12 s13 s14 s15 s16 s17 s18 s19 s20 s21 s22 s23 s24 s25 s26 : Value) (Q : Exit → Act → World → Prop) (HK : Hid (∀ u17 u18 u19 u20 u21 u22 u23 u24 u25 wz, Touch [] W1 wz → Q .normal ⟨(.slice (some ⟨ga, 0, none⟩) n ka :: .slice (some ⟨gb, 0, none⟩) n kb :: s2 :: s3 :: s4 :: .int .i64 (k : Int) :: s6 :: s7 :: s8 :: s9 :: s10 :: s11 :: s12 :: s13 :: s14 :: s15 :: s16 :: u17 :: u18 :: u19 :: u20 :: u21 :: u22 :: u23 :: u24 :: u25 :: .bool false :: []).toArray, []⟩ wz)) : sameall_reg6Code.wp Try.prog Q ⟨(.slice (some ⟨ga, 0, none⟩) n ka :: .slice (some ⟨gb, 0, none⟩) n kb :: s2 :: s3 :: s4 :: .int .i64 (k : Int) :: s6 :: s7 :: s8 :: s9 :: s10 :: s11 :: s12 :: s13 :: s14 :: s15 :: s16 :: s17 :: s18 :: s19 :: s20 :: s21 :: s22 :: s23 :: s24 :: s25 :: s26 :: []).toArray, []⟩ W1 := by
  have b0 : (0 : Int) ≤ (k : Int) := by omega
  have b1 : (k : Int) < (n : Int) := by omega
  conv => arg 2; whnf
  refine wp_region_facts (by kernel_rfl) [[], [], [(0, some 17), (1, some 18)], [(2, some 19)], [], [], [(4, some 21), (5, some 22)], [(6, some 23)], [(3, some 20), (7, some 24)], [(8, some 25)]] [(0, some 17), (1, some 18), (2, some 19), (3, some 20), (4, some 21), (5, some 22), (6, some 23), (7, some 24), (8, some 25), (9, some 26)] (by kernel_rfl) (by kernel_rfl) (by kernel_rfl) (Touch []) (Touch.refl []) (fun _ _ _ h h' => h.trans h' (fun i hi => .inl hi)) [Is (Value.slice (some ⟨ga, 0, none⟩) n ka), Is (Value.int .i64 (k : Int)), Is (Value.pointer (some ⟨ga, k * 3, none⟩)), Is (Value.agg #[.int .u32 (s : Int), .slice ax nx cx, .slice bx mx dx]), Is (Value.slice (some ⟨gb, 0, none⟩) n kb), Is (Value.int .i64 (k : Int)), Is (Value.pointer (some ⟨gb, k * 3, none⟩)), Is (Value.agg #[.int .u32 (s : Int), .slice ay ny cy, .slice by_ my dy]), Is (Value.bool true), Is (Value.bool false)] rfl ⟨is_stab _ _, is_stab _ _, is_stab _ _, is_stab _ _, is_stab _ _, is_stab _ _, is_stab _ _, is_stab _ _, is_stab _ _, is_stab _ _, trivial⟩ ⟨?o0, ?o1, ?o2, ?o3, ?o4, ?o5, ?o6, ?o7, ?o8, ?o9, trivial⟩ ?_
  case o0 =>
    intro vals wq hRq hpq
    simp only [List.getD_cons_zero, List.getD_cons_succ, canonP]
    simp only [Oper.gives]
    go_simp
    exact ⟨is_mk _ _, (Touch.refl []) _⟩
  case o1 =>
    intro vals wq hRq hpq
    simp only [List.getD_cons_zero, List.getD_cons_succ, canonP]
    simp only [Oper.gives]
    go_simp
    exact ⟨is_mk _ _, (Touch.refl []) _⟩
  case o2 =>
    intro vals wq hRq hpq
    simp only [factsP, List.getD_cons_zero, List.getD_cons_succ] at hpq
    have f0 := hpq.1
    replace hpq := hpq.2
    have f1 := hpq.1
    replace hpq := hpq.2
    clear hpq
    replace f0 : vals 0 = _ := f0
    replace f1 : vals 1 = _ := f1
    simp only [List.getD_cons_zero, List.getD_cons_succ, canonP, f0, f1]
    clear f0 f1
    simp only [Oper.gives]
    go_simp
    exact ⟨is_mk _ _, (Touch.refl []) _⟩
  case o3 =>
    intro vals wq hRq hpq
    simp only [factsP, List.getD_cons_zero, List.getD_cons_succ] at hpq
    have f2 := hpq.1
    replace hpq := hpq.2
    clear hpq
    replace f2 : vals 2 = _ := f2
    simp only [List.getD_cons_zero, List.getD_cons_succ, canonP, f2]
    clear f2
    have q0 : wq.cell? ⟨ga, k * 3, none⟩ = some (.int .u32 (s : Int)) := (Touch.cell ((Touch.drew [] W1).trans hRq (by simp)) (a := ⟨ga, k * 3, none⟩) HA0.out.1 (by simp)).trans HA0.out.2
    have q1 : wq.cell? ⟨ga, k * 3 + 1, none⟩ = some (.slice ax nx cx) := (Touch.cell ((Touch.drew [] W1).trans hRq (by simp)) (a := ⟨ga, k * 3 + 1, none⟩) HA1.out.1 (by simp)).trans HA1.out.2
    have q2 : wq.cell? ⟨ga, k * 3 + 2, none⟩ = some (.slice bx mx dx) := (Touch.cell ((Touch.drew [] W1).trans hRq (by simp)) (a := ⟨ga, k * 3 + 2, none⟩) HA2.out.1 (by simp)).trans HA2.out.2
    simp only [Oper.gives]
    go_simp
    exact ⟨is_mk _ _, Touch.refl _ _⟩
  case o4 =>
    intro vals wq hRq hpq
    simp only [List.getD_cons_zero, List.getD_cons_succ, canonP]
    simp only [Oper.gives]
    go_simp
    exact ⟨is_mk _ _, (Touch.refl []) _⟩
  case o5 =>
    intro vals wq hRq hpq
    simp only [List.getD_cons_zero, List.getD_cons_succ, canonP]
    simp only [Oper.gives]
    go_simp
    exact ⟨is_mk _ _, (Touch.refl []) _⟩
  case o6 =>
    intro vals wq hRq hpq
    simp only [factsP, List.getD_cons_zero, List.getD_cons_succ] at hpq
    have f4 := hpq.1
    replace hpq := hpq.2
    have f5 := hpq.1
    replace hpq := hpq.2
    clear hpq
    replace f4 : vals 4 = _ := f4
    replace f5 : vals 5 = _ := f5
    simp only [List.getD_cons_zero, List.getD_cons_succ, canonP, f4, f5]
    clear f4 f5
    simp only [Oper.gives]
    go_simp
    exact ⟨is_mk _ _, (Touch.refl []) _⟩
  case o7 =>
    intro vals wq hRq hpq
    simp only [factsP, List.getD_cons_zero, List.getD_cons_succ] at hpq
    have f6 := hpq.1
    replace hpq := hpq.2
    clear hpq
    replace f6 : vals 6 = _ := f6
    simp only [List.getD_cons_zero, List.getD_cons_succ, canonP, f6]
    clear f6
    have q0 : wq.cell? ⟨gb, k * 3, none⟩ = some (.int .u32 (s : Int)) := (Touch.cell ((Touch.drew [] W1).trans hRq (by simp)) (a := ⟨gb, k * 3, none⟩) HB0.out.1 (by simp)).trans HB0.out.2
    have q1 : wq.cell? ⟨gb, k * 3 + 1, none⟩ = some (.slice ay ny cy) := (Touch.cell ((Touch.drew [] W1).trans hRq (by simp)) (a := ⟨gb, k * 3 + 1, none⟩) HB1.out.1 (by simp)).trans HB1.out.2
    have q2 : wq.cell? ⟨gb, k * 3 + 2, none⟩ = some (.slice by_ my dy) := (Touch.cell ((Touch.drew [] W1).trans hRq (by simp)) (a := ⟨gb, k * 3 + 2, none⟩) HB2.out.1 (by simp)).trans HB2.out.2
    simp only [Oper.gives]
    go_simp
    exact ⟨is_mk _ _, Touch.refl _ _⟩
  case o8 =>
    intro vals wq hRq hpq
    simp only [factsP, List.getD_cons_zero, List.getD_cons_succ] at hpq
    have f3 := hpq.1
    replace hpq := hpq.2
    have f7 := hpq.1
    replace hpq := hpq.2
    clear hpq
    replace f3 : vals 3 = _ := f3
    replace f7 : vals 7 = _ := f7
    simp only [List.getD_cons_zero, List.getD_cons_succ, canonP, f3, f7]
    clear f3 f7
    simp only [Oper.gives]
    go_simp
    exact (HS.out wq (((Touch.drew [] W1).trans hRq (by simp)).below (Nat.le_refl _) (by simp))).mono fun e w' ⟨he, hg⟩ => ⟨_, he, is_mk _ _, Touch.of_below hg⟩
  case o9 =>
    intro vals wq hRq hpq
    simp only [factsP, List.getD_cons_zero, List.getD_cons_succ] at hpq
    have f8 := hpq.1
    replace hpq := hpq.2
    clear hpq
    replace f8 : vals 8 = _ := f8
    simp only [List.getD_cons_zero, List.getD_cons_succ, canonP, f8]
    clear f8
    simp only [Oper.gives]
    go_simp
    exact ⟨is_mk _ _, (Touch.refl []) _⟩
  intro vals wz hRwz hfwz
  simp only [AllFacts] at hfwz
  have g0 := hfwz.1
  replace hfwz := hfwz.2
  have g1 := hfwz.1
  replace hfwz := hfwz.2
  have g2 := hfwz.1
  replace hfwz := hfwz.2
  have g3 := hfwz.1
  replace hfwz := hfwz.2
  have g4 := hfwz.1
  replace hfwz := hfwz.2
  have g5 := hfwz.1
  replace hfwz := hfwz.2
  have g6 := hfwz.1
  replace hfwz := hfwz.2
  have g7 := hfwz.1
  replace hfwz := hfwz.2
  have g8 := hfwz.1
  replace hfwz := hfwz.2
  have g9 := hfwz.1
  replace hfwz := hfwz.2
  clear hfwz
  replace g0 : vals 0 = _ := g0
  replace g1 : vals 1 = _ := g1
  replace g2 : vals 2 = _ := g2
  replace g3 : vals 3 = _ := g3
  replace g4 : vals 4 = _ := g4
  replace g5 : vals 5 = _ := g5
  replace g6 : vals 6 = _ := g6
  replace g7 : vals 7 = _ := g7
  replace g8 : vals 8 = _ := g8
  replace g9 : vals 9 = _ := g9
  simp only [canonP, Act.put, List.setIfInBounds_toArray, List.set_cons_succ, List.set_cons_zero, g0, g1, g2, g3, g4, g5, g6, g7, g8, g9]
  clear g0 g1 g2 g3 g4 g5 g6 g7 g8 g9
  exact HK.out _ _ _ _ _ _ _ _ _ _ ((Touch.drew [] W1).trans hRwz (by simp))
#print axioms sameall_reg6

end Go.Proofs.Ytlhhbkpocpnebaa
