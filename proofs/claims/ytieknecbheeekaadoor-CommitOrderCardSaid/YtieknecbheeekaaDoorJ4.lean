/- jblock.writeRows of tags: its regions, over letters. -/
import Derived.Test.YtieknecbheeekaaDoorJ3
import Derived.Test.YtieknecbheeekaaDoorRegionP
set_option linter.unusedVariables false
set_option linter.unusedSimpArgs false
namespace Go.Proofs.YtieknecbheeekaaDoor
open Go.RowKit Go.Maps

noncomputable def wrt_reg7aCode : Code := regById 7 (codesOf (Tryd.f58.body.getD .skip))
set_option maxRecDepth 100000 in
set_option maxHeartbeats 4000000 in
theorem wrt_reg7a (i : Nat) (W1 : World) (HI0 : Hid (i = 0))
    (s0 s1 s2 s3 s4 s5 s6 s7 s8 s9 s10 s11 s12 s13 s14 s15 s16 s18 s19 s20 s21 s22 s23 s24 s25 s26 s27 s28 s29 s30 s31 s32 s33 s34 s35 s36 s37 s38 s39 s40 s41 s42 s43 s44 s45 s46 s47 s48 s49 s50 s51 s52 s53 s54 s55 s56 s57 s58 s59 s60 s61 s62 s63 s64 s65 s66 s67 s68 s69 s70 s71 s72 s73 s74 s75 s76 s77 : Value) (Q : Exit → Act → World → Prop) (HK : Hid (∀ u48 u49 u50 u51 u52 u53 u54 u55 u56 u57 u58 u59 u60 u61 wz, Touch [] W1 wz → Q .normal ⟨(s0 :: s1 :: s2 :: s3 :: s4 :: s5 :: s6 :: s7 :: s8 :: s9 :: s10 :: s11 :: s12 :: s13 :: s14 :: s15 :: s16 :: .int .i64 (i : Int) :: s18 :: s19 :: s20 :: s21 :: s22 :: s23 :: s24 :: s25 :: s26 :: s27 :: s28 :: s29 :: s30 :: s31 :: s32 :: s33 :: s34 :: s35 :: s36 :: s37 :: s38 :: s39 :: s40 :: s41 :: s42 :: s43 :: s44 :: s45 :: s46 :: s47 :: u48 :: u49 :: u50 :: u51 :: u52 :: u53 :: u54 :: u55 :: u56 :: u57 :: u58 :: u59 :: u60 :: u61 :: .bool false :: s63 :: s64 :: s65 :: s66 :: s67 :: s68 :: s69 :: s70 :: s71 :: s72 :: s73 :: s74 :: s75 :: s76 :: s77 :: []).toArray, []⟩ (wz))) : wrt_reg7aCode.wp Tryd.prog Q ⟨(s0 :: s1 :: s2 :: s3 :: s4 :: s5 :: s6 :: s7 :: s8 :: s9 :: s10 :: s11 :: s12 :: s13 :: s14 :: s15 :: s16 :: .int .i64 (i : Int) :: s18 :: s19 :: s20 :: s21 :: s22 :: s23 :: s24 :: s25 :: s26 :: s27 :: s28 :: s29 :: s30 :: s31 :: s32 :: s33 :: s34 :: s35 :: s36 :: s37 :: s38 :: s39 :: s40 :: s41 :: s42 :: s43 :: s44 :: s45 :: s46 :: s47 :: s48 :: s49 :: s50 :: s51 :: s52 :: s53 :: s54 :: s55 :: s56 :: s57 :: s58 :: s59 :: s60 :: s61 :: s62 :: s63 :: s64 :: s65 :: s66 :: s67 :: s68 :: s69 :: s70 :: s71 :: s72 :: s73 :: s74 :: s75 :: s76 :: s77 :: []).toArray, []⟩ W1 := by
  conv => arg 2; whnf
  refine wp_region_facts (by kernel_rfl) [[], [(0, some 48)], [(1, some 49)], [(2, some 50)], [(2, some 50)], [(2, some 50)], [(2, some 50), (5, some 53)], [(2, some 50), (4, some 52), (6, some 54)], [(2, some 50), (7, some 55)], [(2, some 50), (3, some 51), (8, some 56)], [(2, some 50)], [(2, some 50)], [(2, some 50), (9, some 57), (10, some 58), (11, some 59)], [(2, some 50), (9, some 57), (12, some 60)], [(2, some 50), (13, some 61)]] [(0, some 48), (1, some 49), (2, some 50), (3, some 51), (4, some 52), (5, some 53), (6, some 54), (7, some 55), (8, some 56), (9, some 57), (10, some 58), (11, some 59), (12, some 60), (13, some 61), (14, some 62)] (by kernel_rfl) (by kernel_rfl) (by kernel_rfl) (Touch []) (Touch.refl []) (fun _ _ _ h h' => h.trans h' (fun i hi => .inl hi)) [Is (Value.int .i64 (i : Int)), Is (Value.bool false), Is (Value.bool false), Is (undef), Is (undef), Is (undef), Is (undef), Is (undef), Is (undef), Is (undef), Is (undef), Is (undef), Is (undef), Is (undef), Is (Value.bool false)] rfl ⟨is_stab _ _, is_stab _ _, is_stab _ _, is_stab _ _, is_stab _ _, is_stab _ _, is_stab _ _, is_stab _ _, is_stab _ _, is_stab _ _, is_stab _ _, is_stab _ _, is_stab _ _, is_stab _ _, is_stab _ _, trivial⟩ ⟨?o0, ?o1, ?o2, ?o3, ?o4, ?o5, ?o6, ?o7, ?o8, ?o9, ?o10, ?o11, ?o12, ?o13, ?o14, trivial⟩ ?_
  case o0 =>
    intro vals wq hRq hpq
    simp only [List.getD_cons_zero, List.getD_cons_succ, canonP]
    simp only [Oper.gives]
    go_simp
    exact ⟨is_mk _ _, (Touch.refl []) _⟩
  case o1 =>
    intro vals wq hRq hpq
    simp only [factsP, List.getD_cons_zero, List.getD_cons_succ] at hpq
    have f0 := hpq.1
    replace hpq := hpq.2
    clear hpq
    replace f0 : vals 0 = _ := f0
    simp only [List.getD_cons_zero, List.getD_cons_succ, canonP, f0]
    clear f0
    have hi := HI0.out
    subst hi
    simp only [Oper.gives]
    go_simp
    exact ⟨is_mk _ _, Touch.refl _ _⟩
  case o2 =>
    intro vals wq hRq hpq
    simp only [factsP, List.getD_cons_zero, List.getD_cons_succ] at hpq
    have f1 := hpq.1
    replace hpq := hpq.2
    clear hpq
    replace f1 : vals 1 = _ := f1
    simp only [List.getD_cons_zero, List.getD_cons_succ, canonP, f1]
    clear f1
    simp only [Oper.gives]
    go_simp
    exact ⟨is_mk _ _, (Touch.refl []) _⟩
  case o3 =>
    intro vals wq hRq hpq
    simp only [factsP, List.getD_cons_zero, List.getD_cons_succ] at hpq
    have f2 := hpq.1
    replace hpq := hpq.2
    clear hpq
    replace f2 : vals 2 = _ := f2
    simp only [List.getD_cons_zero, List.getD_cons_succ, canonP, f2]
    clear f2
    first | (rw [if_neg (fun h => by cases (show false = true from h))]; exact is_mk _ _) | (simp only [Oper.gives]; go_simp; exact is_mk _ _)
  case o4 =>
    intro vals wq hRq hpq
    simp only [factsP, List.getD_cons_zero, List.getD_cons_succ] at hpq
    have f2 := hpq.1
    replace hpq := hpq.2
    clear hpq
    replace f2 : vals 2 = _ := f2
    simp only [List.getD_cons_zero, List.getD_cons_succ, canonP, f2]
    clear f2
    first | (rw [if_neg (fun h => by cases (show false = true from h))]; exact is_mk _ _) | (simp only [Oper.gives]; go_simp; exact is_mk _ _)
  case o5 =>
    intro vals wq hRq hpq
    simp only [factsP, List.getD_cons_zero, List.getD_cons_succ] at hpq
    have f2 := hpq.1
    replace hpq := hpq.2
    clear hpq
    replace f2 : vals 2 = _ := f2
    simp only [List.getD_cons_zero, List.getD_cons_succ, canonP, f2]
    clear f2
    first | (rw [if_neg (fun h => by cases (show false = true from h))]; exact is_mk _ _) | (simp only [Oper.gives]; go_simp; exact is_mk _ _)
  case o6 =>
    intro vals wq hRq hpq
    simp only [factsP, List.getD_cons_zero, List.getD_cons_succ] at hpq
    have f2 := hpq.1
    replace hpq := hpq.2
    have f5 := hpq.1
    replace hpq := hpq.2
    clear hpq
    replace f2 : vals 2 = _ := f2
    replace f5 : vals 5 = _ := f5
    simp only [List.getD_cons_zero, List.getD_cons_succ, canonP, f2, f5]
    clear f2 f5
    first | (rw [if_neg (fun h => by cases (show false = true from h))]; exact is_mk _ _) | (simp only [Oper.gives]; go_simp; exact is_mk _ _)
  case o7 =>
    intro vals wq hRq hpq
    simp only [factsP, List.getD_cons_zero, List.getD_cons_succ] at hpq
    have f2 := hpq.1
    replace hpq := hpq.2
    have f4 := hpq.1
    replace hpq := hpq.2
    have f6 := hpq.1
    replace hpq := hpq.2
    clear hpq
    replace f2 : vals 2 = _ := f2
    replace f4 : vals 4 = _ := f4
    replace f6 : vals 6 = _ := f6
    simp only [List.getD_cons_zero, List.getD_cons_succ, canonP, f2, f4, f6]
    clear f2 f4 f6
    first | (rw [if_neg (fun h => by cases (show false = true from h))]; exact is_mk _ _) | (simp only [Oper.gives]; go_simp; exact is_mk _ _)
  case o8 =>
    intro vals wq hRq hpq
    simp only [factsP, List.getD_cons_zero, List.getD_cons_succ] at hpq
    have f2 := hpq.1
    replace hpq := hpq.2
    have f7 := hpq.1
    replace hpq := hpq.2
    clear hpq
    replace f2 : vals 2 = _ := f2
    replace f7 : vals 7 = _ := f7
    simp only [List.getD_cons_zero, List.getD_cons_succ, canonP, f2, f7]
    clear f2 f7
    first | (rw [if_neg (fun h => by cases (show false = true from h))]; exact is_mk _ _) | (simp only [Oper.gives]; go_simp; exact is_mk _ _)
  case o9 =>
    intro vals wq hRq hpq
    simp only [factsP, List.getD_cons_zero, List.getD_cons_succ] at hpq
    have f2 := hpq.1
    replace hpq := hpq.2
    have f3 := hpq.1
    replace hpq := hpq.2
    have f8 := hpq.1
    replace hpq := hpq.2
    clear hpq
    replace f2 : vals 2 = _ := f2
    replace f3 : vals 3 = _ := f3
    replace f8 : vals 8 = _ := f8
    simp only [List.getD_cons_zero, List.getD_cons_succ, canonP, f2, f3, f8]
    clear f2 f3 f8
    first | (rw [if_neg (fun h => by cases (show false = true from h))]; exact is_mk _ _) | (simp only [Oper.gives]; go_simp; exact is_mk _ _)
  case o10 =>
    intro vals wq hRq hpq
    simp only [factsP, List.getD_cons_zero, List.getD_cons_succ] at hpq
    have f2 := hpq.1
    replace hpq := hpq.2
    clear hpq
    replace f2 : vals 2 = _ := f2
    simp only [List.getD_cons_zero, List.getD_cons_succ, canonP, f2]
    clear f2
    first | (rw [if_neg (fun h => by cases (show false = true from h))]; exact is_mk _ _) | (simp only [Oper.gives]; go_simp; exact is_mk _ _)
  case o11 =>
    intro vals wq hRq hpq
    simp only [factsP, List.getD_cons_zero, List.getD_cons_succ] at hpq
    have f2 := hpq.1
    replace hpq := hpq.2
    clear hpq
    replace f2 : vals 2 = _ := f2
    simp only [List.getD_cons_zero, List.getD_cons_succ, canonP, f2]
    clear f2
    first | (rw [if_neg (fun h => by cases (show false = true from h))]; exact is_mk _ _) | (simp only [Oper.gives]; go_simp; exact is_mk _ _)
  case o12 =>
    intro vals wq hRq hpq
    simp only [factsP, List.getD_cons_zero, List.getD_cons_succ] at hpq
    have f2 := hpq.1
    replace hpq := hpq.2
    have f9 := hpq.1
    replace hpq := hpq.2
    have f10 := hpq.1
    replace hpq := hpq.2
    have f11 := hpq.1
    replace hpq := hpq.2
    clear hpq
    replace f2 : vals 2 = _ := f2
    replace f9 : vals 9 = _ := f9
    replace f10 : vals 10 = _ := f10
    replace f11 : vals 11 = _ := f11
    simp only [List.getD_cons_zero, List.getD_cons_succ, canonP, f2, f9, f10, f11]
    clear f2 f9 f10 f11
    first | (rw [if_neg (fun h => by cases (show false = true from h))]; exact is_mk _ _) | (simp only [Oper.gives]; go_simp; exact is_mk _ _)
  case o13 =>
    intro vals wq hRq hpq
    simp only [factsP, List.getD_cons_zero, List.getD_cons_succ] at hpq
    have f2 := hpq.1
    replace hpq := hpq.2
    have f9 := hpq.1
    replace hpq := hpq.2
    have f12 := hpq.1
    replace hpq := hpq.2
    clear hpq
    replace f2 : vals 2 = _ := f2
    replace f9 : vals 9 = _ := f9
    replace f12 : vals 12 = _ := f12
    simp only [List.getD_cons_zero, List.getD_cons_succ, canonP, f2, f9, f12]
    clear f2 f9 f12
    first | (rw [if_neg (fun h => by cases (show false = true from h))]; exact is_mk _ _) | (simp only [Oper.gives]; go_simp; exact is_mk _ _)
  case o14 =>
    intro vals wq hRq hpq
    simp only [factsP, List.getD_cons_zero, List.getD_cons_succ] at hpq
    have f2 := hpq.1
    replace hpq := hpq.2
    have f13 := hpq.1
    replace hpq := hpq.2
    clear hpq
    replace f2 : vals 2 = _ := f2
    replace f13 : vals 13 = _ := f13
    simp only [List.getD_cons_zero, List.getD_cons_succ, canonP, f2, f13]
    clear f2 f13
    simp only [Oper.gives]
    go_simp
    exact ⟨is_mk _ _, (Touch.refl []) _⟩
  intro vals wz hRwz hfwz
  simp only [AllFacts] at hfwz
  have g0 := hfwz.1
  replace hfwz := hfwz.2
  have g1 := hfwz.1
  replace hfwz := hfwz.2
  have g2 := hfwz.1
  replace hfwz := hfwz.2
  have g3 := hfwz.1
  replace hfwz := hfwz.2
  have g4 := hfwz.1
  replace hfwz := hfwz.2
  have g5 := hfwz.1
  replace hfwz := hfwz.2
  have g6 := hfwz.1
  replace hfwz := hfwz.2
  have g7 := hfwz.1
  replace hfwz := hfwz.2
  have g8 := hfwz.1
  replace hfwz := hfwz.2
  have g9 := hfwz.1
  replace hfwz := hfwz.2
  have g10 := hfwz.1
  replace hfwz := hfwz.2
  have g11 := hfwz.1
  replace hfwz := hfwz.2
  have g12 := hfwz.1
  replace hfwz := hfwz.2
  have g13 := hfwz.1
  replace hfwz := hfwz.2
  have g14 := hfwz.1
  replace hfwz := hfwz.2
  clear hfwz
  replace g0 : vals 0 = _ := g0
  replace g1 : vals 1 = _ := g1
  replace g2 : vals 2 = _ := g2
  replace g3 : vals 3 = _ := g3
  replace g4 : vals 4 = _ := g4
  replace g5 : vals 5 = _ := g5
  replace g6 : vals 6 = _ := g6
  replace g7 : vals 7 = _ := g7
  replace g8 : vals 8 = _ := g8
  replace g9 : vals 9 = _ := g9
  replace g10 : vals 10 = _ := g10
  replace g11 : vals 11 = _ := g11
  replace g12 : vals 12 = _ := g12
  replace g13 : vals 13 = _ := g13
  replace g14 : vals 14 = _ := g14
  simp only [canonP, Act.put, List.setIfInBounds_toArray, List.set_cons_succ, List.set_cons_zero, g0, g1, g2, g3, g4, g5, g6, g7, g8, g9, g10, g11, g12, g13, g14]
  clear g0 g1 g2 g3 g4 g5 g6 g7 g8 g9 g10 g11 g12 g13 g14
  exact HK.out _ _ _ _ _ _ _ _ _ _ _ _ _ _ _ ((Touch.drew [] W1).trans hRwz (by simp))
#print axioms wrt_reg7a
noncomputable def wrt_reg7bCode : Code := regById 7 (codesOf (Tryd.f58.body.getD .skip))
set_option maxRecDepth 100000 in
set_option maxHeartbeats 4000000 in
theorem wrt_reg7b (gl ol n c TB i j b0 b1 : Nat) (e0 e1 q : Bool) (W1 : World) (HIJ : Hid (i = j + 1)) (HIN : Hid (i < n)) (HW : Hid (IntKind.i64.wrap ((i : Int) - 1) = (j : Int))) (HC0 : Hid (gl < W1.heap.size ∧ W1.cell? ⟨gl, ol + j * 2, none⟩ = some (.int .u32 (b0 : Int)))) (HC1 : Hid (gl < W1.heap.size ∧ W1.cell? ⟨gl, ol + j * 2 + 1, none⟩ = some (.bool e0))) (HT0 : Hid (TB < W1.heap.size ∧ W1.cell? ⟨TB, 0, none⟩ = some (.int .u32 (b1 : Int)))) (HT1 : Hid (TB < W1.heap.size ∧ W1.cell? ⟨TB, 1, none⟩ = some (.bool e1))) (HQ : Hid (decide (b1 ≤ b0) = q))
    (s0 s1 s3 s4 s6 s7 s8 s9 s10 s11 s12 s13 s14 s15 s16 s19 s20 s21 s22 s23 s24 s25 s26 s27 s28 s29 s30 s31 s32 s33 s34 s35 s36 s37 s38 s39 s40 s41 s42 s43 s44 s45 s46 s47 s48 s49 s50 s51 s52 s53 s54 s55 s56 s57 s58 s59 s60 s61 s62 s63 s64 s65 s66 s67 s68 s69 s70 s71 s72 s73 s74 s75 s76 s77 : Value) (Q : Exit → Act → World → Prop) (HK : Hid (∀ u48 u49 u50 u51 u52 u53 u54 u55 u56 u57 u58 u59 u60 u61 wz, Touch [] W1 wz → Q .normal ⟨(s0 :: s1 :: .slice (some ⟨gl, ol, none⟩) n c :: s3 :: s4 :: .func (.func 59) #[] #[] :: s6 :: s7 :: s8 :: s9 :: s10 :: s11 :: s12 :: s13 :: s14 :: s15 :: s16 :: .int .i64 (i : Int) :: .pointer (some ⟨TB, 0, none⟩) :: s19 :: s20 :: s21 :: s22 :: s23 :: s24 :: s25 :: s26 :: s27 :: s28 :: s29 :: s30 :: s31 :: s32 :: s33 :: s34 :: s35 :: s36 :: s37 :: s38 :: s39 :: s40 :: s41 :: s42 :: s43 :: s44 :: s45 :: s46 :: s47 :: u48 :: u49 :: u50 :: u51 :: u52 :: u53 :: u54 :: u55 :: u56 :: u57 :: u58 :: u59 :: u60 :: u61 :: .bool q :: s63 :: s64 :: s65 :: s66 :: s67 :: s68 :: s69 :: s70 :: s71 :: s72 :: s73 :: s74 :: s75 :: s76 :: s77 :: []).toArray, []⟩ (wz))) : wrt_reg7bCode.wp Tryd.prog Q ⟨(s0 :: s1 :: .slice (some ⟨gl, ol, none⟩) n c :: s3 :: s4 :: .func (.func 59) #[] #[] :: s6 :: s7 :: s8 :: s9 :: s10 :: s11 :: s12 :: s13 :: s14 :: s15 :: s16 :: .int .i64 (i : Int) :: .pointer (some ⟨TB, 0, none⟩) :: s19 :: s20 :: s21 :: s22 :: s23 :: s24 :: s25 :: s26 :: s27 :: s28 :: s29 :: s30 :: s31 :: s32 :: s33 :: s34 :: s35 :: s36 :: s37 :: s38 :: s39 :: s40 :: s41 :: s42 :: s43 :: s44 :: s45 :: s46 :: s47 :: s48 :: s49 :: s50 :: s51 :: s52 :: s53 :: s54 :: s55 :: s56 :: s57 :: s58 :: s59 :: s60 :: s61 :: s62 :: s63 :: s64 :: s65 :: s66 :: s67 :: s68 :: s69 :: s70 :: s71 :: s72 :: s73 :: s74 :: s75 :: s76 :: s77 :: []).toArray, []⟩ W1 := by
  conv => arg 2; whnf
  refine wp_region_facts (by kernel_rfl) [[], [(0, some 48)], [(1, some 49)], [(2, some 50)], [(2, some 50)], [(2, some 50)], [(2, some 50), (5, some 53)], [(2, some 50), (4, some 52), (6, some 54)], [(2, some 50), (7, some 55)], [(2, some 50), (3, some 51), (8, some 56)], [(2, some 50)], [(2, some 50)], [(2, some 50), (9, some 57), (10, some 58), (11, some 59)], [(2, some 50), (9, some 57), (12, some 60)], [(2, some 50), (13, some 61)]] [(0, some 48), (1, some 49), (2, some 50), (3, some 51), (4, some 52), (5, some 53), (6, some 54), (7, some 55), (8, some 56), (9, some 57), (10, some 58), (11, some 59), (12, some 60), (13, some 61), (14, some 62)] (by kernel_rfl) (by kernel_rfl) (by kernel_rfl) (Touch []) (Touch.refl []) (fun _ _ _ h h' => h.trans h' (fun i hi => .inl hi)) [Is (Value.int .i64 (i : Int)), Is (Value.bool true), Is (Value.bool true), Is (Value.func (.func 59) #[] #[]), Is (Value.slice (some ⟨gl, ol, none⟩) n c), Is (Value.int .i64 (i : Int)), Is (Value.int .i64 (j : Int)), Is (Value.pointer (some ⟨gl, ol + j * 2, none⟩)), Is (Value.agg #[.int .u32 (b0 : Int), .bool e0]), Is (Value.int .u32 (b0 : Int)), Is (Value.func (.func 59) #[] #[]), Is (Value.agg #[.int .u32 (b1 : Int), .bool e1]), Is (Value.int .u32 (b1 : Int)), Is (Value.bool q), Is (Value.bool q)] rfl ⟨is_stab _ _, is_stab _ _, is_stab _ _, is_stab _ _, is_stab _ _, is_stab _ _, is_stab _ _, is_stab _ _, is_stab _ _, is_stab _ _, is_stab _ _, is_stab _ _, is_stab _ _, is_stab _ _, is_stab _ _, trivial⟩ ⟨?o0, ?o1, ?o2, ?o3, ?o4, ?o5, ?o6, ?o7, ?o8, ?o9, ?o10, ?o11, ?o12, ?o13, ?o14, trivial⟩ ?_
  case o0 =>
    intro vals wq hRq hpq
    simp only [List.getD_cons_zero, List.getD_cons_succ, canonP]
    simp only [Oper.gives]
    go_simp
    exact ⟨is_mk _ _, (Touch.refl []) _⟩
  case o1 =>
    intro vals wq hRq hpq
    simp only [factsP, List.getD_cons_zero, List.getD_cons_succ] at hpq
    have f0 := hpq.1
    replace hpq := hpq.2
    clear hpq
    replace f0 : vals 0 = _ := f0
    simp only [List.getD_cons_zero, List.getD_cons_succ, canonP, f0]
    clear f0
    have hi := HIJ.out
    have d0 : (0 : Int) < (i : Int) := by omega
    simp only [Oper.gives]
    go_simp
    first | exact ⟨is_mk _ _, Touch.refl _ _⟩ | (rw [show decide (0 < i) = true from decide_eq_true (by omega)]; exact ⟨is_mk _ _, Touch.refl _ _⟩)
  case o2 =>
    intro vals wq hRq hpq
    simp only [factsP, List.getD_cons_zero, List.getD_cons_succ] at hpq
    have f1 := hpq.1
    replace hpq := hpq.2
    clear hpq
    replace f1 : vals 1 = _ := f1
    simp only [List.getD_cons_zero, List.getD_cons_succ, canonP, f1]
    clear f1
    simp only [Oper.gives]
    go_simp
    exact ⟨is_mk _ _, (Touch.refl []) _⟩
  case o3 =>
    intro vals wq hRq hpq
    simp only [factsP, List.getD_cons_zero, List.getD_cons_succ] at hpq
    have f2 := hpq.1
    replace hpq := hpq.2
    clear hpq
    replace f2 : vals 2 = _ := f2
    simp only [List.getD_cons_zero, List.getD_cons_succ, canonP, f2]
    clear f2
    simp only [Oper.gives]
    go_simp
    exact ⟨is_mk _ _, (Touch.refl []) _⟩
  case o4 =>
    intro vals wq hRq hpq
    simp only [factsP, List.getD_cons_zero, List.getD_cons_succ] at hpq
    have f2 := hpq.1
    replace hpq := hpq.2
    clear hpq
    replace f2 : vals 2 = _ := f2
    simp only [List.getD_cons_zero, List.getD_cons_succ, canonP, f2]
    clear f2
    simp only [Oper.gives]
    go_simp
    exact ⟨is_mk _ _, (Touch.refl []) _⟩
  case o5 =>
    intro vals wq hRq hpq
    simp only [factsP, List.getD_cons_zero, List.getD_cons_succ] at hpq
    have f2 := hpq.1
    replace hpq := hpq.2
    clear hpq
    replace f2 : vals 2 = _ := f2
    simp only [List.getD_cons_zero, List.getD_cons_succ, canonP, f2]
    clear f2
    simp only [Oper.gives]
    go_simp
    exact ⟨is_mk _ _, (Touch.refl []) _⟩
  case o6 =>
    intro vals wq hRq hpq
    simp only [factsP, List.getD_cons_zero, List.getD_cons_succ] at hpq
    have f2 := hpq.1
    replace hpq := hpq.2
    have f5 := hpq.1
    replace hpq := hpq.2
    clear hpq
    replace f2 : vals 2 = _ := f2
    replace f5 : vals 5 = _ := f5
    simp only [List.getD_cons_zero, List.getD_cons_succ, canonP, f2, f5]
    clear f2 f5
    try rw [if_pos (by rfl)]
    have hw := HW.out
    simp only [Oper.gives]
    go_simp
    exact ⟨is_mk _ _, Touch.refl _ _⟩
  case o7 =>
    intro vals wq hRq hpq
    simp only [factsP, List.getD_cons_zero, List.getD_cons_succ] at hpq
    have f2 := hpq.1
    replace hpq := hpq.2
    have f4 := hpq.1
    replace hpq := hpq.2
    have f6 := hpq.1
    replace hpq := hpq.2
    clear hpq
    replace f2 : vals 2 = _ := f2
    replace f4 : vals 4 = _ := f4
    replace f6 : vals 6 = _ := f6
    simp only [List.getD_cons_zero, List.getD_cons_succ, canonP, f2, f4, f6]
    clear f2 f4 f6
    try rw [if_pos (by rfl)]
    have hi := HIJ.out
    have hn := HIN.out
    have b0 : (0 : Int) ≤ (j : Int) := by omega
    have b1 : (j : Int) < (n : Int) := by omega
    simp only [Oper.gives]
    go_simp
    exact ⟨is_mk _ _, Touch.refl _ _⟩
  case o8 =>
    intro vals wq hRq hpq
    simp only [factsP, List.getD_cons_zero, List.getD_cons_succ] at hpq
    have f2 := hpq.1
    replace hpq := hpq.2
    have f7 := hpq.1
    replace hpq := hpq.2
    clear hpq
    replace f2 : vals 2 = _ := f2
    replace f7 : vals 7 = _ := f7
    simp only [List.getD_cons_zero, List.getD_cons_succ, canonP, f2, f7]
    clear f2 f7
    try rw [if_pos (by rfl)]
    have q0 : wq.cell? ⟨gl, ol + j * 2, none⟩ = some (.int .u32 (b0 : Int)) := (Touch.cell ((Touch.drew [] W1).trans hRq (by simp)) (a := ⟨gl, ol + j * 2, none⟩) HC0.out.1 (by simp)).trans HC0.out.2
    have q1 : wq.cell? ⟨gl, ol + j * 2 + 1, none⟩ = some (.bool e0) := (Touch.cell ((Touch.drew [] W1).trans hRq (by simp)) (a := ⟨gl, ol + j * 2 + 1, none⟩) HC1.out.1 (by simp)).trans HC1.out.2
    simp only [Oper.gives]
    go_simp
    exact ⟨is_mk _ _, Touch.refl _ _⟩
  case o9 =>
    intro vals wq hRq hpq
    simp only [factsP, List.getD_cons_zero, List.getD_cons_succ] at hpq
    have f2 := hpq.1
    replace hpq := hpq.2
    have f3 := hpq.1
    replace hpq := hpq.2
    have f8 := hpq.1
    replace hpq := hpq.2
    clear hpq
    replace f2 : vals 2 = _ := f2
    replace f3 : vals 3 = _ := f3
    replace f8 : vals 8 = _ := f8
    simp only [List.getD_cons_zero, List.getD_cons_succ, canonP, f2, f3, f8]
    clear f2 f3 f8
    try rw [if_pos (by rfl)]
    simp only [Oper.gives]
    go_simp
    exact (tagKey_ok b0 e0 wq).mono fun e w' ⟨he, hg⟩ => ⟨_, he, is_mk _ _, Touch.of_below hg⟩
  case o10 =>
    intro vals wq hRq hpq
    simp only [factsP, List.getD_cons_zero, List.getD_cons_succ] at hpq
    have f2 := hpq.1
    replace hpq := hpq.2
    clear hpq
    replace f2 : vals 2 = _ := f2
    simp only [List.getD_cons_zero, List.getD_cons_succ, canonP, f2]
    clear f2
    simp only [Oper.gives]
    go_simp
    exact ⟨is_mk _ _, (Touch.refl []) _⟩
  case o11 =>
    intro vals wq hRq hpq
    simp only [factsP, List.getD_cons_zero, List.getD_cons_succ] at hpq
    have f2 := hpq.1
    replace hpq := hpq.2
    clear hpq
    replace f2 : vals 2 = _ := f2
    simp only [List.getD_cons_zero, List.getD_cons_succ, canonP, f2]
    clear f2
    try rw [if_pos (by rfl)]
    have q0 : wq.cell? ⟨TB, 0, none⟩ = some (.int .u32 (b1 : Int)) := (Touch.cell ((Touch.drew [] W1).trans hRq (by simp)) (a := ⟨TB, 0, none⟩) HT0.out.1 (by simp)).trans HT0.out.2
    have q1 : wq.cell? ⟨TB, 1, none⟩ = some (.bool e1) := (Touch.cell ((Touch.drew [] W1).trans hRq (by simp)) (a := ⟨TB, 1, none⟩) HT1.out.1 (by simp)).trans HT1.out.2
    simp only [Oper.gives]
    go_simp
    exact ⟨is_mk _ _, Touch.refl _ _⟩
  case o12 =>
    intro vals wq hRq hpq
    simp only [factsP, List.getD_cons_zero, List.getD_cons_succ] at hpq
    have f2 := hpq.1
    replace hpq := hpq.2
    have f9 := hpq.1
    replace hpq := hpq.2
    have f10 := hpq.1
    replace hpq := hpq.2
    have f11 := hpq.1
    replace hpq := hpq.2
    clear hpq
    replace f2 : vals 2 = _ := f2
    replace f9 : vals 9 = _ := f9
    replace f10 : vals 10 = _ := f10
    replace f11 : vals 11 = _ := f11
    simp only [List.getD_cons_zero, List.getD_cons_succ, canonP, f2, f9, f10, f11]
    clear f2 f9 f10 f11
    try rw [if_pos (by rfl)]
    simp only [Oper.gives]
    go_simp
    exact (tagKey_ok b1 e1 wq).mono fun e w' ⟨he, hg⟩ => ⟨_, he, is_mk _ _, Touch.of_below hg⟩
  case o13 =>
    intro vals wq hRq hpq
    simp only [factsP, List.getD_cons_zero, List.getD_cons_succ] at hpq
    have f2 := hpq.1
    replace hpq := hpq.2
    have f9 := hpq.1
    replace hpq := hpq.2
    have f12 := hpq.1
    replace hpq := hpq.2
    clear hpq
    replace f2 : vals 2 = _ := f2
    replace f9 : vals 9 = _ := f9
    replace f12 : vals 12 = _ := f12
    simp only [List.getD_cons_zero, List.getD_cons_succ, canonP, f2, f9, f12]
    clear f2 f9 f12
    try rw [if_pos (by rfl)]
    simp only [Oper.gives]
    go_simp
    rw [HQ.out]
    exact ⟨is_mk _ _, Touch.refl _ _⟩
  case o14 =>
    intro vals wq hRq hpq
    simp only [factsP, List.getD_cons_zero, List.getD_cons_succ] at hpq
    have f2 := hpq.1
    replace hpq := hpq.2
    have f13 := hpq.1
    replace hpq := hpq.2
    clear hpq
    replace f2 : vals 2 = _ := f2
    replace f13 : vals 13 = _ := f13
    simp only [List.getD_cons_zero, List.getD_cons_succ, canonP, f2, f13]
    clear f2 f13
    simp only [Oper.gives]
    go_simp
    exact ⟨is_mk _ _, (Touch.refl []) _⟩
  intro vals wz hRwz hfwz
  simp only [AllFacts] at hfwz
  have g0 := hfwz.1
  replace hfwz := hfwz.2
  have g1 := hfwz.1
  replace hfwz := hfwz.2
  have g2 := hfwz.1
  replace hfwz := hfwz.2
  have g3 := hfwz.1
  replace hfwz := hfwz.2
  have g4 := hfwz.1
  replace hfwz := hfwz.2
  have g5 := hfwz.1
  replace hfwz := hfwz.2
  have g6 := hfwz.1
  replace hfwz := hfwz.2
  have g7 := hfwz.1
  replace hfwz := hfwz.2
  have g8 := hfwz.1
  replace hfwz := hfwz.2
  have g9 := hfwz.1
  replace hfwz := hfwz.2
  have g10 := hfwz.1
  replace hfwz := hfwz.2
  have g11 := hfwz.1
  replace hfwz := hfwz.2
  have g12 := hfwz.1
  replace hfwz := hfwz.2
  have g13 := hfwz.1
  replace hfwz := hfwz.2
  have g14 := hfwz.1
  replace hfwz := hfwz.2
  clear hfwz
  replace g0 : vals 0 = _ := g0
  replace g1 : vals 1 = _ := g1
  replace g2 : vals 2 = _ := g2
  replace g3 : vals 3 = _ := g3
  replace g4 : vals 4 = _ := g4
  replace g5 : vals 5 = _ := g5
  replace g6 : vals 6 = _ := g6
  replace g7 : vals 7 = _ := g7
  replace g8 : vals 8 = _ := g8
  replace g9 : vals 9 = _ := g9
  replace g10 : vals 10 = _ := g10
  replace g11 : vals 11 = _ := g11
  replace g12 : vals 12 = _ := g12
  replace g13 : vals 13 = _ := g13
  replace g14 : vals 14 = _ := g14
  simp only [canonP, Act.put, List.setIfInBounds_toArray, List.set_cons_succ, List.set_cons_zero, g0, g1, g2, g3, g4, g5, g6, g7, g8, g9, g10, g11, g12, g13, g14]
  clear g0 g1 g2 g3 g4 g5 g6 g7 g8 g9 g10 g11 g12 g13 g14
  exact HK.out _ _ _ _ _ _ _ _ _ _ _ _ _ _ _ ((Touch.drew [] W1).trans hRwz (by simp))
#print axioms wrt_reg7b
noncomputable def wrt_reg10Code : Code := regById 10 (codesOf (Tryd.f58.body.getD .skip))
set_option maxRecDepth 100000 in
set_option maxHeartbeats 4000000 in
theorem wrt_reg10 (B TB at_ b1 : Nat) (e1 : Bool) (W1 : World) (HA : Hid (at_ + 8 ≤ 256 ∧ 0 < at_)) (HW : Hid (IntKind.i64.wrap ((at_ : Int) + 8) = (at_ : Int) + 8)) (HT0 : Hid (TB < W1.heap.size ∧ W1.cell? ⟨TB, 0, none⟩ = some (.int .u32 (b1 : Int)))) (HT1 : Hid (TB < W1.heap.size ∧ W1.cell? ⟨TB, 1, none⟩ = some (.bool e1))) (HP : Hid (∀ w, Grow W1 w → Calls Tryd.prog 60 #[.slice (some ⟨B, at_, none⟩) 8 (256 - at_), .agg #[.int .u32 (b1 : Int), .bool e1]] w (PutPost B w)))
    (s0 s1 s2 s3 s5 s7 s8 s9 s10 s11 s12 s13 s14 s15 s17 s20 s21 s22 s23 s24 s25 s26 s27 s28 s29 s30 s31 s32 s33 s34 s35 s36 s37 s38 s39 s40 s41 s42 s43 s44 s45 s46 s47 s48 s49 s50 s51 s52 s53 s54 s55 s56 s57 s58 s59 s60 s61 s62 s63 s64 s65 s66 s67 s68 s69 s70 s71 s72 s73 s74 s75 s76 s77 : Value) (Q : Exit → Act → World → Prop) (HK : Hid (∀ u68 u69 u70 u71 u72 u73 u74 u75 wz, (∃ x' : Blk, wz.heap[B]? = some (.cells (bc x').toArray 34) ∧ x'.length = 256) → Touch [B] W1 wz → Q .normal ⟨(s0 :: s1 :: s2 :: s3 :: .int .i64 8 :: s5 :: .func (.func 60) #[] #[] :: s7 :: s8 :: s9 :: s10 :: s11 :: s12 :: s13 :: s14 :: s15 :: .pointer (some ⟨B, 0, none⟩) :: s17 :: .pointer (some ⟨TB, 0, none⟩) :: .int .i64 (at_ : Int) :: s20 :: s21 :: s22 :: s23 :: s24 :: s25 :: s26 :: s27 :: s28 :: s29 :: s30 :: s31 :: s32 :: s33 :: s34 :: s35 :: s36 :: s37 :: s38 :: s39 :: s40 :: s41 :: s42 :: s43 :: s44 :: s45 :: s46 :: s47 :: s48 :: s49 :: s50 :: s51 :: s52 :: s53 :: s54 :: s55 :: s56 :: s57 :: s58 :: s59 :: s60 :: s61 :: s62 :: s63 :: s64 :: s65 :: s66 :: s67 :: u68 :: u69 :: u70 :: u71 :: u72 :: u73 :: u74 :: u75 :: s76 :: s77 :: []).toArray, []⟩ (wz))) : wrt_reg10Code.wp Tryd.prog Q ⟨(s0 :: s1 :: s2 :: s3 :: .int .i64 8 :: s5 :: .func (.func 60) #[] #[] :: s7 :: s8 :: s9 :: s10 :: s11 :: s12 :: s13 :: s14 :: s15 :: .pointer (some ⟨B, 0, none⟩) :: s17 :: .pointer (some ⟨TB, 0, none⟩) :: .int .i64 (at_ : Int) :: s20 :: s21 :: s22 :: s23 :: s24 :: s25 :: s26 :: s27 :: s28 :: s29 :: s30 :: s31 :: s32 :: s33 :: s34 :: s35 :: s36 :: s37 :: s38 :: s39 :: s40 :: s41 :: s42 :: s43 :: s44 :: s45 :: s46 :: s47 :: s48 :: s49 :: s50 :: s51 :: s52 :: s53 :: s54 :: s55 :: s56 :: s57 :: s58 :: s59 :: s60 :: s61 :: s62 :: s63 :: s64 :: s65 :: s66 :: s67 :: s68 :: s69 :: s70 :: s71 :: s72 :: s73 :: s74 :: s75 :: s76 :: s77 :: []).toArray, []⟩ W1 := by
  conv => arg 2; whnf
  refine wp_region_facts_tail 7 (by kernel_rfl) (by kernel_rfl) [[], [], [], [], [(2, some 70), (3, some 71)], [(1, some 69), (4, some 72)], []] [(0, some 68), (1, some 69), (2, some 70), (3, some 71), (4, some 72), (5, some 73), (6, some 74)] (by kernel_rfl) (by kernel_rfl) (by kernel_rfl) (Touch []) (Touch.refl []) (fun _ _ _ h h' => h.trans h' (fun i hi => .inl hi)) [Is (Value.func (.func 60) #[] #[]), Is (Value.int .i64 (at_ : Int)), Is (Value.int .i64 (at_ : Int)), Is (Value.int .i64 8), Is (Value.int .i64 ((at_ : Int) + 8)), Is (Value.slice (some ⟨B, at_, none⟩) 8 (256 - at_)), Is (Value.agg #[.int .u32 (b1 : Int), .bool e1])] rfl ⟨is_stab _ _, is_stab _ _, is_stab _ _, is_stab _ _, is_stab _ _, is_stab _ _, is_stab _ _, trivial⟩ ⟨?o0, ?o1, ?o2, ?o3, ?o4, ?o5, ?o6, trivial⟩ ?_
  case o0 =>
    intro vals wq hRq hpq
    simp only [List.getD_cons_zero, List.getD_cons_succ, canonP]
    simp only [Oper.gives]
    go_simp
    exact ⟨is_mk _ _, (Touch.refl []) _⟩
  case o1 =>
    intro vals wq hRq hpq
    simp only [List.getD_cons_zero, List.getD_cons_succ, canonP]
    simp only [Oper.gives]
    go_simp
    exact ⟨is_mk _ _, (Touch.refl []) _⟩
  case o2 =>
    intro vals wq hRq hpq
    simp only [List.getD_cons_zero, List.getD_cons_succ, canonP]
    simp only [Oper.gives]
    go_simp
    exact ⟨is_mk _ _, (Touch.refl []) _⟩
  case o3 =>
    intro vals wq hRq hpq
    simp only [List.getD_cons_zero, List.getD_cons_succ, canonP]
    simp only [Oper.gives]
    go_simp
    exact ⟨is_mk _ _, (Touch.refl []) _⟩
  case o4 =>
    intro vals wq hRq hpq
    simp only [factsP, List.getD_cons_zero, List.getD_cons_succ] at hpq
    have f2 := hpq.1
    replace hpq := hpq.2
    have f3 := hpq.1
    replace hpq := hpq.2
    clear hpq
    replace f2 : vals 2 = _ := f2
    replace f3 : vals 3 = _ := f3
    simp only [List.getD_cons_zero, List.getD_cons_succ, canonP, f2, f3]
    clear f2 f3
    have hw := HW.out
    simp only [Oper.gives]
    go_simp
    exact ⟨is_mk _ _, Touch.refl _ _⟩
  case o5 =>
    intro vals wq hRq hpq
    simp only [factsP, List.getD_cons_zero, List.getD_cons_succ] at hpq
    have f1 := hpq.1
    replace hpq := hpq.2
    have f4 := hpq.1
    replace hpq := hpq.2
    clear hpq
    replace f1 : vals 1 = _ := f1
    replace f4 : vals 4 = _ := f4
    simp only [List.getD_cons_zero, List.getD_cons_succ, canonP, f1, f4]
    clear f1 f4
    have ha := HA.out
    have b0 : (0 : Int) ≤ (at_ : Int) := by omega
    have b1 : (at_ : Int) ≤ (at_ : Int) + 8 := by omega
    have b2 : (at_ : Int) + 8 ≤ 256 := by omega
    simp only [Oper.gives]
    go_simp
    rw [if_neg (show ¬ 256 = at_ by omega), show ((at_ : Int) + 8).toNat - at_ = 8 by omega]
    exact ⟨is_mk _ _, Touch.refl _ _⟩
  case o6 =>
    intro vals wq hRq hpq
    simp only [List.getD_cons_zero, List.getD_cons_succ, canonP]
    have q0 : wq.cell? ⟨TB, 0, none⟩ = some (.int .u32 (b1 : Int)) := (Touch.cell ((Touch.drew [] W1).trans hRq (by simp)) (a := ⟨TB, 0, none⟩) HT0.out.1 (by simp)).trans HT0.out.2
    have q1 : wq.cell? ⟨TB, 1, none⟩ = some (.bool e1) := (Touch.cell ((Touch.drew [] W1).trans hRq (by simp)) (a := ⟨TB, 1, none⟩) HT1.out.1 (by simp)).trans HT1.out.2
    simp only [Oper.gives]
    go_simp
    exact ⟨is_mk _ _, Touch.refl _ _⟩
  intro vals wz hRwz hfwz
  simp only [AllFacts] at hfwz
  have g0 := hfwz.1
  replace hfwz := hfwz.2
  have g1 := hfwz.1
  replace hfwz := hfwz.2
  have g2 := hfwz.1
  replace hfwz := hfwz.2
  have g3 := hfwz.1
  replace hfwz := hfwz.2
  have g4 := hfwz.1
  replace hfwz := hfwz.2
  have g5 := hfwz.1
  replace hfwz := hfwz.2
  have g6 := hfwz.1
  replace hfwz := hfwz.2
  clear hfwz
  replace g0 : vals 0 = _ := g0
  replace g1 : vals 1 = _ := g1
  replace g2 : vals 2 = _ := g2
  replace g3 : vals 3 = _ := g3
  replace g4 : vals 4 = _ := g4
  replace g5 : vals 5 = _ := g5
  replace g6 : vals 6 = _ := g6
  simp only [List.drop_succ_cons, List.drop_zero]
  simp only [canonP, Act.put, List.setIfInBounds_toArray, List.set_cons_succ, List.set_cons_zero, g0, g1, g2, g3, g4, g5, g6]
  clear g0 g1 g2 g3 g4 g5 g6
  have hq := (Touch.drew [] W1).trans hRwz (by simp)
  have HQ := Lib.hid hq
  clear hq
  go_wp2_with fail
  refine (HP.out _ (HQ.out.below (Nat.le_refl _) (by simp))).mono ?_
  intro e w2 hp
  obtain ⟨⟨u, rfl⟩, hx, ht⟩ := hp
  have HX := Lib.hid hx
  have HTT := Lib.hid (((Touch.refl [B] W1).trans HQ.out (by simp)).trans ht (fun i hi => .inl hi))
  clear hx ht
  go_wp2_with fail
  exact HK.out _ _ _ _ _ _ _ _ _ HX.out HTT.out
#print axioms wrt_reg10
end Go.Proofs.YtieknecbheeekaaDoor
