/- A list of committed transactions: may. -/
import Derived.Test.YtokehhegomiciaaH6
import Derived.Test.YtokehhegomiciaaGeo
set_option linter.unusedVariables false
set_option linter.unusedSimpArgs false
namespace Go.Proofs.Ytokehhegomiciaa
open Go.RowKit Go.Maps

noncomputable def may_reg11Code : Code := regById 11 (codesOf (Try.f31.body.getD .skip))
set_option maxRecDepth 100000 in
set_option maxHeartbeats 4000000 in
theorem may_reg11 (B X k : Nat) (gr sz ni jr b p q : Int) (W1 : World) (HB : Hid (B < W1.heap.size)) (HG0 : Hid (W1.cell? ⟨B, 1, none⟩ = some (.int .i64 gr))) (HG1 : Hid (W1.cell? ⟨B, 2, none⟩ = some (.int .i64 sz))) (HG2 : Hid (W1.cell? ⟨B, 3, none⟩ = some (.int .i64 ni))) (HG3 : Hid (W1.cell? ⟨B, 4, none⟩ = some (.int .i64 jr))) (HX0 : Hid (X < W1.heap.size ∧ W1.cell? ⟨X, 0, none⟩ = some (.int .i64 b))) (HWh : Hid (∀ w, Calls Try.prog 39 #[.agg #[.int .i64 gr, .int .i64 sz, .int .i64 ni, .int .i64 jr], .int .i64 b] w fun e w' => e = .returned (.tuple #[.int .u8 (k : Int), .int .i64 p, .int .i64 q]) ∧ Grow w w'))
    (s1 s2 s3 s4 s5 s6 s7 s8 s9 s10 s12 s13 s14 s15 s16 s17 s18 s19 s20 s21 s22 s23 s24 s25 s26 s27 s28 s29 s30 s31 s32 s33 s34 s35 s36 s37 s38 s39 s40 s41 s42 s43 s44 s45 s46 s47 s48 s49 s50 s51 s52 s53 s54 s55 s56 s57 s58 s59 s60 s61 s62 s63 s64 s65 s66 s67 s68 s69 s70 s71 s72 s73 s74 s75 s76 s77 s78 s79 s80 s81 s82 s83 s84 s85 s86 s87 s88 s89 s90 s91 s92 s93 s94 s95 s96 s97 s98 s99 s100 s101 s102 s103 s104 s105 s106 s107 s108 s109 s110 s111 s112 s113 s114 s115 s116 : Value) (Q : Exit → Act → World → Prop) (HK : Hid (∀ u13 u14 u74 u75 u76 u77 u78 u79 u80 u81 u82 u83 u84 wz, Touch [] W1 wz → Q .normal ⟨(.pointer (some ⟨B, 0, none⟩) :: s1 :: s2 :: s3 :: s4 :: s5 :: s6 :: s7 :: s8 :: s9 :: s10 :: .pointer (some ⟨X, 0, none⟩) :: .int .u8 (k : Int) :: u13 :: u14 :: s15 :: s16 :: s17 :: s18 :: s19 :: s20 :: s21 :: s22 :: s23 :: s24 :: s25 :: s26 :: s27 :: s28 :: s29 :: s30 :: s31 :: s32 :: s33 :: s34 :: s35 :: s36 :: s37 :: s38 :: s39 :: s40 :: s41 :: s42 :: s43 :: s44 :: s45 :: s46 :: s47 :: s48 :: s49 :: s50 :: s51 :: s52 :: s53 :: s54 :: s55 :: s56 :: s57 :: s58 :: s59 :: s60 :: s61 :: s62 :: s63 :: s64 :: s65 :: s66 :: s67 :: s68 :: s69 :: s70 :: s71 :: s72 :: s73 :: u74 :: u75 :: u76 :: u77 :: u78 :: u79 :: u80 :: u81 :: u82 :: u83 :: u84 :: s85 :: s86 :: s87 :: s88 :: s89 :: s90 :: s91 :: s92 :: s93 :: s94 :: s95 :: s96 :: s97 :: s98 :: s99 :: s100 :: s101 :: s102 :: s103 :: s104 :: s105 :: s106 :: s107 :: s108 :: s109 :: s110 :: s111 :: s112 :: s113 :: s114 :: s115 :: s116 :: []).toArray, []⟩ (wz))) : may_reg11Code.wp Try.prog Q ⟨(.pointer (some ⟨B, 0, none⟩) :: s1 :: s2 :: s3 :: s4 :: s5 :: s6 :: s7 :: s8 :: s9 :: s10 :: .pointer (some ⟨X, 0, none⟩) :: s12 :: s13 :: s14 :: s15 :: s16 :: s17 :: s18 :: s19 :: s20 :: s21 :: s22 :: s23 :: s24 :: s25 :: s26 :: s27 :: s28 :: s29 :: s30 :: s31 :: s32 :: s33 :: s34 :: s35 :: s36 :: s37 :: s38 :: s39 :: s40 :: s41 :: s42 :: s43 :: s44 :: s45 :: s46 :: s47 :: s48 :: s49 :: s50 :: s51 :: s52 :: s53 :: s54 :: s55 :: s56 :: s57 :: s58 :: s59 :: s60 :: s61 :: s62 :: s63 :: s64 :: s65 :: s66 :: s67 :: s68 :: s69 :: s70 :: s71 :: s72 :: s73 :: s74 :: s75 :: s76 :: s77 :: s78 :: s79 :: s80 :: s81 :: s82 :: s83 :: s84 :: s85 :: s86 :: s87 :: s88 :: s89 :: s90 :: s91 :: s92 :: s93 :: s94 :: s95 :: s96 :: s97 :: s98 :: s99 :: s100 :: s101 :: s102 :: s103 :: s104 :: s105 :: s106 :: s107 :: s108 :: s109 :: s110 :: s111 :: s112 :: s113 :: s114 :: s115 :: s116 :: []).toArray, []⟩ W1 := by
  conv => arg 2; whnf
  refine wp_region_facts (by kernel_rfl) [[], [(0, some 75)], [(1, some 76)], [(2, some 77)], [], [(4, some 79)], [(3, some 78), (5, some 80)], [(6, some 81)], [(7, some 74)], [(7, some 74)], [(7, some 74)], [(0, some 75), (1, some 76), (2, some 77), (3, some 78), (4, some 79), (5, some 80), (6, some 81), (7, some 74), (8, some 82)], [(0, some 75), (1, some 76), (2, some 77), (3, some 78), (4, some 79), (5, some 80), (6, some 81), (7, some 74), (8, some 82), (9, some 83), (11, some 12)], [(0, some 75), (1, some 76), (2, some 77), (3, some 78), (4, some 79), (5, some 80), (6, some 81), (7, some 74), (8, some 82), (9, some 83), (10, some 84), (11, some 12), (12, some 13)]] [(0, some 75), (1, some 76), (2, some 77), (3, some 78), (4, some 79), (5, some 80), (6, some 81), (7, some 74), (8, some 82), (9, some 83), (10, some 84), (11, some 12), (12, some 13), (13, some 14)] (by kernel_rfl) (by kernel_rfl) (by kernel_rfl) (Touch []) (Touch.refl []) (fun _ _ _ h h' => h.trans h' (fun i hi => .inl hi)) [Is (Value.pointer (some ⟨B, 0, none⟩)), Is (Value.pointer (some ⟨B, 0, none⟩)), Is (Value.pointer (some ⟨B, 1, none⟩)), Is (Value.agg #[.int .i64 gr, .int .i64 sz, .int .i64 ni, .int .i64 jr]), Is (Value.pointer (some ⟨X, 0, none⟩)), Is (Value.int .i64 b), Is (Value.tuple #[.int .u8 (k : Int), .int .i64 p, .int .i64 q]), Is (Value.tuple #[.int .u8 (k : Int), .int .i64 p, .int .i64 q]), Is (Value.int .u8 (k : Int)), Is (Value.int .i64 p), Is (Value.int .i64 q), Is (Value.int .u8 (k : Int)), Is (Value.int .i64 p), Is (Value.int .i64 q)] rfl ⟨is_stab _ _, is_stab _ _, is_stab _ _, is_stab _ _, is_stab _ _, is_stab _ _, is_stab _ _, is_stab _ _, is_stab _ _, is_stab _ _, is_stab _ _, is_stab _ _, is_stab _ _, is_stab _ _, trivial⟩ ⟨?o0, ?o1, ?o2, ?o3, ?o4, ?o5, ?o6, ?o7, ?o8, ?o9, ?o10, ?o11, ?o12, ?o13, trivial⟩ ?_
  case o0 =>
    intro vals wq hRq hpq
    simp only [List.getD_cons_zero, List.getD_cons_succ, canonP]
    simp only [Oper.gives]
    go_simp
    exact ⟨is_mk _ _, (Touch.refl []) _⟩
  case o1 =>
    intro vals wq hRq hpq
    simp only [factsP, List.getD_cons_zero, List.getD_cons_succ] at hpq
    have f0 := hpq.1
    replace hpq := hpq.2
    clear hpq
    replace f0 : vals 0 = _ := f0
    simp only [List.getD_cons_zero, List.getD_cons_succ, canonP, f0]
    clear f0
    simp only [Oper.gives]
    go_simp
    exact ⟨is_mk _ _, (Touch.refl []) _⟩
  case o2 =>
    intro vals wq hRq hpq
    simp only [factsP, List.getD_cons_zero, List.getD_cons_succ] at hpq
    have f1 := hpq.1
    replace hpq := hpq.2
    clear hpq
    replace f1 : vals 1 = _ := f1
    simp only [List.getD_cons_zero, List.getD_cons_succ, canonP, f1]
    clear f1
    simp only [Oper.gives]
    go_simp
    exact ⟨is_mk _ _, (Touch.refl []) _⟩
  case o3 =>
    intro vals wq hRq hpq
    simp only [factsP, List.getD_cons_zero, List.getD_cons_succ] at hpq
    have f2 := hpq.1
    replace hpq := hpq.2
    clear hpq
    replace f2 : vals 2 = _ := f2
    simp only [List.getD_cons_zero, List.getD_cons_succ, canonP, f2]
    clear f2
    have q0 : wq.cell? ⟨B, 1, none⟩ = some (.int .i64 gr) := (Touch.cell ((Touch.drew [] W1).trans hRq (by simp)) (a := ⟨B, 1, none⟩) HB.out (by simp)).trans HG0.out
    have q1 : wq.cell? ⟨B, 2, none⟩ = some (.int .i64 sz) := (Touch.cell ((Touch.drew [] W1).trans hRq (by simp)) (a := ⟨B, 2, none⟩) HB.out (by simp)).trans HG1.out
    have q2 : wq.cell? ⟨B, 3, none⟩ = some (.int .i64 ni) := (Touch.cell ((Touch.drew [] W1).trans hRq (by simp)) (a := ⟨B, 3, none⟩) HB.out (by simp)).trans HG2.out
    have q3 : wq.cell? ⟨B, 4, none⟩ = some (.int .i64 jr) := (Touch.cell ((Touch.drew [] W1).trans hRq (by simp)) (a := ⟨B, 4, none⟩) HB.out (by simp)).trans HG3.out
    simp only [Oper.gives]
    go_simp
    exact ⟨is_mk _ _, Touch.refl _ _⟩
  case o4 =>
    intro vals wq hRq hpq
    simp only [List.getD_cons_zero, List.getD_cons_succ, canonP]
    simp only [Oper.gives]
    go_simp
    exact ⟨is_mk _ _, (Touch.refl []) _⟩
  case o5 =>
    intro vals wq hRq hpq
    simp only [factsP, List.getD_cons_zero, List.getD_cons_succ] at hpq
    have f4 := hpq.1
    replace hpq := hpq.2
    clear hpq
    replace f4 : vals 4 = _ := f4
    simp only [List.getD_cons_zero, List.getD_cons_succ, canonP, f4]
    clear f4
    have hcc : wq.cell? ⟨X, 0, none⟩ = some (.int .i64 b) := (Touch.cell ((Touch.drew [] W1).trans hRq (by simp)) (a := ⟨X, 0, none⟩) HX0.out.1 (by simp)).trans HX0.out.2
    simp only [Oper.gives]
    go_simp
    exact ⟨is_mk _ _, Touch.refl _ _⟩
  case o6 =>
    intro vals wq hRq hpq
    simp only [factsP, List.getD_cons_zero, List.getD_cons_succ] at hpq
    have f3 := hpq.1
    replace hpq := hpq.2
    have f5 := hpq.1
    replace hpq := hpq.2
    clear hpq
    replace f3 : vals 3 = _ := f3
    replace f5 : vals 5 = _ := f5
    simp only [List.getD_cons_zero, List.getD_cons_succ, canonP, f3, f5]
    clear f3 f5
    simp only [Oper.gives]
    go_simp
    exact (HWh.out wq).mono fun e w' ⟨he, hg⟩ => ⟨_, he, is_mk _ _, Touch.of_below hg⟩
  case o7 =>
    intro vals wq hRq hpq
    simp only [factsP, List.getD_cons_zero, List.getD_cons_succ] at hpq
    have f6 := hpq.1
    replace hpq := hpq.2
    clear hpq
    replace f6 : vals 6 = _ := f6
    simp only [List.getD_cons_zero, List.getD_cons_succ, canonP, f6]
    clear f6
    simp only [Oper.gives]
    go_simp
    exact ⟨is_mk _ _, (Touch.refl []) _⟩
  case o8 =>
    intro vals wq hRq hpq
    simp only [factsP, List.getD_cons_zero, List.getD_cons_succ] at hpq
    have f7 := hpq.1
    replace hpq := hpq.2
    clear hpq
    replace f7 : vals 7 = _ := f7
    simp only [List.getD_cons_zero, List.getD_cons_succ, canonP, f7]
    clear f7
    simp only [Oper.gives]
    go_simp
    exact ⟨is_mk _ _, Touch.refl _ _⟩
  case o9 =>
    intro vals wq hRq hpq
    simp only [factsP, List.getD_cons_zero, List.getD_cons_succ] at hpq
    have f7 := hpq.1
    replace hpq := hpq.2
    clear hpq
    replace f7 : vals 7 = _ := f7
    simp only [List.getD_cons_zero, List.getD_cons_succ, canonP, f7]
    clear f7
    simp only [Oper.gives]
    go_simp
    exact ⟨is_mk _ _, Touch.refl _ _⟩
  case o10 =>
    intro vals wq hRq hpq
    simp only [factsP, List.getD_cons_zero, List.getD_cons_succ] at hpq
    have f7 := hpq.1
    replace hpq := hpq.2
    clear hpq
    replace f7 : vals 7 = _ := f7
    simp only [List.getD_cons_zero, List.getD_cons_succ, canonP, f7]
    clear f7
    simp only [Oper.gives]
    go_simp
    exact ⟨is_mk _ _, Touch.refl _ _⟩
  case o11 =>
    intro vals wq hRq hpq
    simp only [factsP, List.getD_cons_zero, List.getD_cons_succ] at hpq
    have f0 := hpq.1
    replace hpq := hpq.2
    have f1 := hpq.1
    replace hpq := hpq.2
    have f2 := hpq.1
    replace hpq := hpq.2
    have f3 := hpq.1
    replace hpq := hpq.2
    have f4 := hpq.1
    replace hpq := hpq.2
    have f5 := hpq.1
    replace hpq := hpq.2
    have f6 := hpq.1
    replace hpq := hpq.2
    have f7 := hpq.1
    replace hpq := hpq.2
    have f8 := hpq.1
    replace hpq := hpq.2
    clear hpq
    replace f0 : vals 0 = _ := f0
    replace f1 : vals 1 = _ := f1
    replace f2 : vals 2 = _ := f2
    replace f3 : vals 3 = _ := f3
    replace f4 : vals 4 = _ := f4
    replace f5 : vals 5 = _ := f5
    replace f6 : vals 6 = _ := f6
    replace f7 : vals 7 = _ := f7
    replace f8 : vals 8 = _ := f8
    simp only [List.getD_cons_zero, List.getD_cons_succ, canonP, f0, f1, f2, f3, f4, f5, f6, f7, f8]
    clear f0 f1 f2 f3 f4 f5 f6 f7 f8
    simp only [Oper.gives]
    go_simp
    exact ⟨is_mk _ _, (Touch.refl []) _⟩
  case o12 =>
    intro vals wq hRq hpq
    simp only [factsP, List.getD_cons_zero, List.getD_cons_succ] at hpq
    have f0 := hpq.1
    replace hpq := hpq.2
    have f1 := hpq.1
    replace hpq := hpq.2
    have f2 := hpq.1
    replace hpq := hpq.2
    have f3 := hpq.1
    replace hpq := hpq.2
    have f4 := hpq.1
    replace hpq := hpq.2
    have f5 := hpq.1
    replace hpq := hpq.2
    have f6 := hpq.1
    replace hpq := hpq.2
    have f7 := hpq.1
    replace hpq := hpq.2
    have f8 := hpq.1
    replace hpq := hpq.2
    have f9 := hpq.1
    replace hpq := hpq.2
    have f11 := hpq.1
    replace hpq := hpq.2
    clear hpq
    replace f0 : vals 0 = _ := f0
    replace f1 : vals 1 = _ := f1
    replace f2 : vals 2 = _ := f2
    replace f3 : vals 3 = _ := f3
    replace f4 : vals 4 = _ := f4
    replace f5 : vals 5 = _ := f5
    replace f6 : vals 6 = _ := f6
    replace f7 : vals 7 = _ := f7
    replace f8 : vals 8 = _ := f8
    replace f9 : vals 9 = _ := f9
    replace f11 : vals 11 = _ := f11
    simp only [List.getD_cons_zero, List.getD_cons_succ, canonP, f0, f1, f2, f3, f4, f5, f6, f7, f8, f9, f11]
    clear f0 f1 f2 f3 f4 f5 f6 f7 f8 f9 f11
    simp only [Oper.gives]
    go_simp
    exact ⟨is_mk _ _, (Touch.refl []) _⟩
  case o13 =>
    intro vals wq hRq hpq
    simp only [factsP, List.getD_cons_zero, List.getD_cons_succ] at hpq
    have f0 := hpq.1
    replace hpq := hpq.2
    have f1 := hpq.1
    replace hpq := hpq.2
    have f2 := hpq.1
    replace hpq := hpq.2
    have f3 := hpq.1
    replace hpq := hpq.2
    have f4 := hpq.1
    replace hpq := hpq.2
    have f5 := hpq.1
    replace hpq := hpq.2
    have f6 := hpq.1
    replace hpq := hpq.2
    have f7 := hpq.1
    replace hpq := hpq.2
    have f8 := hpq.1
    replace hpq := hpq.2
    have f9 := hpq.1
    replace hpq := hpq.2
    have f10 := hpq.1
    replace hpq := hpq.2
    have f11 := hpq.1
    replace hpq := hpq.2
    have f12 := hpq.1
    replace hpq := hpq.2
    clear hpq
    replace f0 : vals 0 = _ := f0
    replace f1 : vals 1 = _ := f1
    replace f2 : vals 2 = _ := f2
    replace f3 : vals 3 = _ := f3
    replace f4 : vals 4 = _ := f4
    replace f5 : vals 5 = _ := f5
    replace f6 : vals 6 = _ := f6
    replace f7 : vals 7 = _ := f7
    replace f8 : vals 8 = _ := f8
    replace f9 : vals 9 = _ := f9
    replace f10 : vals 10 = _ := f10
    replace f11 : vals 11 = _ := f11
    replace f12 : vals 12 = _ := f12
    simp only [List.getD_cons_zero, List.getD_cons_succ, canonP, f0, f1, f2, f3, f4, f5, f6, f7, f8, f9, f10, f11, f12]
    clear f0 f1 f2 f3 f4 f5 f6 f7 f8 f9 f10 f11 f12
    simp only [Oper.gives]
    go_simp
    exact ⟨is_mk _ _, (Touch.refl []) _⟩
  intro vals wz hRwz hfwz
  simp only [AllFacts] at hfwz
  have g0 := hfwz.1
  replace hfwz := hfwz.2
  have g1 := hfwz.1
  replace hfwz := hfwz.2
  have g2 := hfwz.1
  replace hfwz := hfwz.2
  have g3 := hfwz.1
  replace hfwz := hfwz.2
  have g4 := hfwz.1
  replace hfwz := hfwz.2
  have g5 := hfwz.1
  replace hfwz := hfwz.2
  have g6 := hfwz.1
  replace hfwz := hfwz.2
  have g7 := hfwz.1
  replace hfwz := hfwz.2
  have g8 := hfwz.1
  replace hfwz := hfwz.2
  have g9 := hfwz.1
  replace hfwz := hfwz.2
  have g10 := hfwz.1
  replace hfwz := hfwz.2
  have g11 := hfwz.1
  replace hfwz := hfwz.2
  have g12 := hfwz.1
  replace hfwz := hfwz.2
  have g13 := hfwz.1
  replace hfwz := hfwz.2
  clear hfwz
  replace g0 : vals 0 = _ := g0
  replace g1 : vals 1 = _ := g1
  replace g2 : vals 2 = _ := g2
  replace g3 : vals 3 = _ := g3
  replace g4 : vals 4 = _ := g4
  replace g5 : vals 5 = _ := g5
  replace g6 : vals 6 = _ := g6
  replace g7 : vals 7 = _ := g7
  replace g8 : vals 8 = _ := g8
  replace g9 : vals 9 = _ := g9
  replace g10 : vals 10 = _ := g10
  replace g11 : vals 11 = _ := g11
  replace g12 : vals 12 = _ := g12
  replace g13 : vals 13 = _ := g13
  simp only [canonP, Act.put, List.setIfInBounds_toArray, List.set_cons_succ, List.set_cons_zero, g0, g1, g2, g3, g4, g5, g6, g7, g8, g9, g10, g11, g12, g13]
  clear g0 g1 g2 g3 g4 g5 g6 g7 g8 g9 g10 g11 g12 g13
  exact HK.out _ _ _ _ _ _ _ _ _ _ _ _ _ _ ((Touch.drew [] W1).trans hRwz (by simp))
#print axioms may_reg11
noncomputable def may_reg9aCode : Code := regById 9 (codesOf (Try.f31.body.getD .skip))
set_option maxRecDepth 100000 in
set_option maxHeartbeats 4000000 in
theorem may_reg9a (i : Nat) (W1 : World) (HI : Hid (i = 0))
    (s0 s1 s2 s3 s4 s5 s6 s7 s8 s9 s11 s12 s13 s14 s15 s16 s17 s18 s19 s20 s21 s22 s23 s24 s25 s26 s27 s28 s29 s30 s31 s32 s33 s34 s35 s36 s37 s38 s39 s40 s41 s42 s43 s44 s45 s46 s47 s48 s49 s50 s51 s52 s53 s54 s55 s56 s57 s58 s59 s60 s61 s62 s63 s64 s65 s66 s67 s68 s69 s70 s71 s72 s73 s74 s75 s76 s77 s78 s79 s80 s81 s82 s83 s84 s85 s86 s87 s88 s89 s90 s91 s92 s93 s94 s95 s96 s97 s98 s99 s100 s101 s102 s103 s104 s105 s106 s107 s108 s109 s110 s111 s112 s113 s114 s115 s116 : Value) (Q : Exit → Act → World → Prop) (HK : Hid (∀ u60 u61 u62 u63 u64 u65 u66 u67 u68 u69 u70 u71 u72 wz, Touch [] W1 wz → Q .normal ⟨(s0 :: s1 :: s2 :: s3 :: s4 :: s5 :: s6 :: s7 :: s8 :: s9 :: .int .i64 (i : Int) :: s11 :: s12 :: s13 :: s14 :: s15 :: s16 :: s17 :: s18 :: s19 :: s20 :: s21 :: s22 :: s23 :: s24 :: s25 :: s26 :: s27 :: s28 :: s29 :: s30 :: s31 :: s32 :: s33 :: s34 :: s35 :: s36 :: s37 :: s38 :: s39 :: s40 :: s41 :: s42 :: s43 :: s44 :: s45 :: s46 :: s47 :: s48 :: s49 :: s50 :: s51 :: s52 :: s53 :: s54 :: s55 :: s56 :: s57 :: s58 :: s59 :: u60 :: u61 :: u62 :: u63 :: u64 :: u65 :: u66 :: u67 :: u68 :: u69 :: u70 :: u71 :: u72 :: .bool false :: s74 :: s75 :: s76 :: s77 :: s78 :: s79 :: s80 :: s81 :: s82 :: s83 :: s84 :: s85 :: s86 :: s87 :: s88 :: s89 :: s90 :: s91 :: s92 :: s93 :: s94 :: s95 :: s96 :: s97 :: s98 :: s99 :: s100 :: s101 :: s102 :: s103 :: s104 :: s105 :: s106 :: s107 :: s108 :: s109 :: s110 :: s111 :: s112 :: s113 :: s114 :: s115 :: s116 :: []).toArray, []⟩ (wz))) : may_reg9aCode.wp Try.prog Q ⟨(s0 :: s1 :: s2 :: s3 :: s4 :: s5 :: s6 :: s7 :: s8 :: s9 :: .int .i64 (i : Int) :: s11 :: s12 :: s13 :: s14 :: s15 :: s16 :: s17 :: s18 :: s19 :: s20 :: s21 :: s22 :: s23 :: s24 :: s25 :: s26 :: s27 :: s28 :: s29 :: s30 :: s31 :: s32 :: s33 :: s34 :: s35 :: s36 :: s37 :: s38 :: s39 :: s40 :: s41 :: s42 :: s43 :: s44 :: s45 :: s46 :: s47 :: s48 :: s49 :: s50 :: s51 :: s52 :: s53 :: s54 :: s55 :: s56 :: s57 :: s58 :: s59 :: s60 :: s61 :: s62 :: s63 :: s64 :: s65 :: s66 :: s67 :: s68 :: s69 :: s70 :: s71 :: s72 :: s73 :: s74 :: s75 :: s76 :: s77 :: s78 :: s79 :: s80 :: s81 :: s82 :: s83 :: s84 :: s85 :: s86 :: s87 :: s88 :: s89 :: s90 :: s91 :: s92 :: s93 :: s94 :: s95 :: s96 :: s97 :: s98 :: s99 :: s100 :: s101 :: s102 :: s103 :: s104 :: s105 :: s106 :: s107 :: s108 :: s109 :: s110 :: s111 :: s112 :: s113 :: s114 :: s115 :: s116 :: []).toArray, []⟩ W1 := by
  conv => arg 2; whnf
  refine wp_region_facts (by kernel_rfl) [[], [(0, some 60)], [(1, some 61)], [(2, some 62)], [(2, some 62), (3, some 63)], [(2, some 62)], [(2, some 62), (5, some 65)], [(2, some 62)], [(2, some 62), (7, some 67)], [(2, some 62), (6, some 66), (8, some 68)], [(2, some 62), (9, some 69)], [(2, some 62), (10, some 70)], [(2, some 62), (4, some 64), (11, some 71)], [(2, some 62), (12, some 72)]] [(0, some 60), (1, some 61), (2, some 62), (3, some 63), (4, some 64), (5, some 65), (6, some 66), (7, some 67), (8, some 68), (9, some 69), (10, some 70), (11, some 71), (12, some 72), (13, some 73)] (by kernel_rfl) (by kernel_rfl) (by kernel_rfl) (Touch []) (Touch.refl []) (fun _ _ _ h h' => h.trans h' (fun i hi => .inl hi)) [Is (Value.int .i64 (i : Int)), Is (Value.bool false), Is (Value.bool false), Is (undef), Is (undef), Is (undef), Is (undef), Is (undef), Is (undef), Is (undef), Is (undef), Is (undef), Is (undef), Is (Value.bool false)] rfl ⟨is_stab _ _, is_stab _ _, is_stab _ _, is_stab _ _, is_stab _ _, is_stab _ _, is_stab _ _, is_stab _ _, is_stab _ _, is_stab _ _, is_stab _ _, is_stab _ _, is_stab _ _, is_stab _ _, trivial⟩ ⟨?o0, ?o1, ?o2, ?o3, ?o4, ?o5, ?o6, ?o7, ?o8, ?o9, ?o10, ?o11, ?o12, ?o13, trivial⟩ ?_
  case o0 =>
    intro vals wq hRq hpq
    simp only [List.getD_cons_zero, List.getD_cons_succ, canonP]
    simp only [Oper.gives]
    go_simp
    exact ⟨is_mk _ _, (Touch.refl []) _⟩
  case o1 =>
    intro vals wq hRq hpq
    simp only [factsP, List.getD_cons_zero, List.getD_cons_succ] at hpq
    have f0 := hpq.1
    replace hpq := hpq.2
    clear hpq
    replace f0 : vals 0 = _ := f0
    simp only [List.getD_cons_zero, List.getD_cons_succ, canonP, f0]
    clear f0
    have hi0 := HI.out
    simp only [Oper.gives]
    go_simp
    subst hi0
    exact ⟨is_mk _ _, Touch.refl _ _⟩
  case o2 =>
    intro vals wq hRq hpq
    simp only [factsP, List.getD_cons_zero, List.getD_cons_succ] at hpq
    have f1 := hpq.1
    replace hpq := hpq.2
    clear hpq
    replace f1 : vals 1 = _ := f1
    simp only [List.getD_cons_zero, List.getD_cons_succ, canonP, f1]
    clear f1
    simp only [Oper.gives]
    go_simp
    exact ⟨is_mk _ _, (Touch.refl []) _⟩
  case o3 =>
    intro vals wq hRq hpq
    simp only [factsP, List.getD_cons_zero, List.getD_cons_succ] at hpq
    have f2 := hpq.1
    replace hpq := hpq.2
    clear hpq
    replace f2 : vals 2 = _ := f2
    simp only [List.getD_cons_zero, List.getD_cons_succ, canonP, f2]
    clear f2
    simp only [Oper.gives]
    go_simp
    exact is_mk _ _
  case o4 =>
    intro vals wq hRq hpq
    simp only [factsP, List.getD_cons_zero, List.getD_cons_succ] at hpq
    have f2 := hpq.1
    replace hpq := hpq.2
    have f3 := hpq.1
    replace hpq := hpq.2
    clear hpq
    replace f2 : vals 2 = _ := f2
    replace f3 : vals 3 = _ := f3
    simp only [List.getD_cons_zero, List.getD_cons_succ, canonP, f2, f3]
    clear f2 f3
    simp only [Oper.gives]
    go_simp
    exact is_mk _ _
  case o5 =>
    intro vals wq hRq hpq
    simp only [factsP, List.getD_cons_zero, List.getD_cons_succ] at hpq
    have f2 := hpq.1
    replace hpq := hpq.2
    clear hpq
    replace f2 : vals 2 = _ := f2
    simp only [List.getD_cons_zero, List.getD_cons_succ, canonP, f2]
    clear f2
    simp only [Oper.gives]
    go_simp
    exact is_mk _ _
  case o6 =>
    intro vals wq hRq hpq
    simp only [factsP, List.getD_cons_zero, List.getD_cons_succ] at hpq
    have f2 := hpq.1
    replace hpq := hpq.2
    have f5 := hpq.1
    replace hpq := hpq.2
    clear hpq
    replace f2 : vals 2 = _ := f2
    replace f5 : vals 5 = _ := f5
    simp only [List.getD_cons_zero, List.getD_cons_succ, canonP, f2, f5]
    clear f2 f5
    simp only [Oper.gives]
    go_simp
    exact is_mk _ _
  case o7 =>
    intro vals wq hRq hpq
    simp only [factsP, List.getD_cons_zero, List.getD_cons_succ] at hpq
    have f2 := hpq.1
    replace hpq := hpq.2
    clear hpq
    replace f2 : vals 2 = _ := f2
    simp only [List.getD_cons_zero, List.getD_cons_succ, canonP, f2]
    clear f2
    simp only [Oper.gives]
    go_simp
    exact is_mk _ _
  case o8 =>
    intro vals wq hRq hpq
    simp only [factsP, List.getD_cons_zero, List.getD_cons_succ] at hpq
    have f2 := hpq.1
    replace hpq := hpq.2
    have f7 := hpq.1
    replace hpq := hpq.2
    clear hpq
    replace f2 : vals 2 = _ := f2
    replace f7 : vals 7 = _ := f7
    simp only [List.getD_cons_zero, List.getD_cons_succ, canonP, f2, f7]
    clear f2 f7
    simp only [Oper.gives]
    go_simp
    exact is_mk _ _
  case o9 =>
    intro vals wq hRq hpq
    simp only [factsP, List.getD_cons_zero, List.getD_cons_succ] at hpq
    have f2 := hpq.1
    replace hpq := hpq.2
    have f6 := hpq.1
    replace hpq := hpq.2
    have f8 := hpq.1
    replace hpq := hpq.2
    clear hpq
    replace f2 : vals 2 = _ := f2
    replace f6 : vals 6 = _ := f6
    replace f8 : vals 8 = _ := f8
    simp only [List.getD_cons_zero, List.getD_cons_succ, canonP, f2, f6, f8]
    clear f2 f6 f8
    simp only [Oper.gives]
    go_simp
    exact is_mk _ _
  case o10 =>
    intro vals wq hRq hpq
    simp only [factsP, List.getD_cons_zero, List.getD_cons_succ] at hpq
    have f2 := hpq.1
    replace hpq := hpq.2
    have f9 := hpq.1
    replace hpq := hpq.2
    clear hpq
    replace f2 : vals 2 = _ := f2
    replace f9 : vals 9 = _ := f9
    simp only [List.getD_cons_zero, List.getD_cons_succ, canonP, f2, f9]
    clear f2 f9
    simp only [Oper.gives]
    go_simp
    exact is_mk _ _
  case o11 =>
    intro vals wq hRq hpq
    simp only [factsP, List.getD_cons_zero, List.getD_cons_succ] at hpq
    have f2 := hpq.1
    replace hpq := hpq.2
    have f10 := hpq.1
    replace hpq := hpq.2
    clear hpq
    replace f2 : vals 2 = _ := f2
    replace f10 : vals 10 = _ := f10
    simp only [List.getD_cons_zero, List.getD_cons_succ, canonP, f2, f10]
    clear f2 f10
    simp only [Oper.gives]
    go_simp
    exact is_mk _ _
  case o12 =>
    intro vals wq hRq hpq
    simp only [factsP, List.getD_cons_zero, List.getD_cons_succ] at hpq
    have f2 := hpq.1
    replace hpq := hpq.2
    have f4 := hpq.1
    replace hpq := hpq.2
    have f11 := hpq.1
    replace hpq := hpq.2
    clear hpq
    replace f2 : vals 2 = _ := f2
    replace f4 : vals 4 = _ := f4
    replace f11 : vals 11 = _ := f11
    simp only [List.getD_cons_zero, List.getD_cons_succ, canonP, f2, f4, f11]
    clear f2 f4 f11
    simp only [Oper.gives]
    go_simp
    exact is_mk _ _
  case o13 =>
    intro vals wq hRq hpq
    simp only [factsP, List.getD_cons_zero, List.getD_cons_succ] at hpq
    have f2 := hpq.1
    replace hpq := hpq.2
    have f12 := hpq.1
    replace hpq := hpq.2
    clear hpq
    replace f2 : vals 2 = _ := f2
    replace f12 : vals 12 = _ := f12
    simp only [List.getD_cons_zero, List.getD_cons_succ, canonP, f2, f12]
    clear f2 f12
    simp only [Oper.gives]
    go_simp
    exact ⟨is_mk _ _, (Touch.refl []) _⟩
  intro vals wz hRwz hfwz
  simp only [AllFacts] at hfwz
  have g0 := hfwz.1
  replace hfwz := hfwz.2
  have g1 := hfwz.1
  replace hfwz := hfwz.2
  have g2 := hfwz.1
  replace hfwz := hfwz.2
  have g3 := hfwz.1
  replace hfwz := hfwz.2
  have g4 := hfwz.1
  replace hfwz := hfwz.2
  have g5 := hfwz.1
  replace hfwz := hfwz.2
  have g6 := hfwz.1
  replace hfwz := hfwz.2
  have g7 := hfwz.1
  replace hfwz := hfwz.2
  have g8 := hfwz.1
  replace hfwz := hfwz.2
  have g9 := hfwz.1
  replace hfwz := hfwz.2
  have g10 := hfwz.1
  replace hfwz := hfwz.2
  have g11 := hfwz.1
  replace hfwz := hfwz.2
  have g12 := hfwz.1
  replace hfwz := hfwz.2
  have g13 := hfwz.1
  replace hfwz := hfwz.2
  clear hfwz
  replace g0 : vals 0 = _ := g0
  replace g1 : vals 1 = _ := g1
  replace g2 : vals 2 = _ := g2
  replace g3 : vals 3 = _ := g3
  replace g4 : vals 4 = _ := g4
  replace g5 : vals 5 = _ := g5
  replace g6 : vals 6 = _ := g6
  replace g7 : vals 7 = _ := g7
  replace g8 : vals 8 = _ := g8
  replace g9 : vals 9 = _ := g9
  replace g10 : vals 10 = _ := g10
  replace g11 : vals 11 = _ := g11
  replace g12 : vals 12 = _ := g12
  replace g13 : vals 13 = _ := g13
  simp only [canonP, Act.put, List.setIfInBounds_toArray, List.set_cons_succ, List.set_cons_zero, g0, g1, g2, g3, g4, g5, g6, g7, g8, g9, g10, g11, g12, g13]
  clear g0 g1 g2 g3 g4 g5 g6 g7 g8 g9 g10 g11 g12 g13
  exact HK.out _ _ _ _ _ _ _ _ _ _ _ _ _ _ ((Touch.drew [] W1).trans hRwz (by simp))
#print axioms may_reg9a
noncomputable def may_reg9bCode : Code := regById 9 (codesOf (Try.f31.body.getD .skip))
set_option maxRecDepth 100000 in
set_option maxHeartbeats 4000000 in
theorem may_reg9b (X Y gc oc j n cc : Nat) (b d : Int) (LE : Bool) (W1 : World) (HJ : Hid (j < n ∧ n ≤ 1000)) (HX0 : Hid (X < W1.heap.size ∧ W1.cell? ⟨X, 0, none⟩ = some (.int .i64 b))) (HY1 : Hid (Y < W1.heap.size ∧ W1.cell? ⟨Y, 1, none⟩ = some (.slice (some ⟨gc, oc, none⟩) n cc))) (HD : Hid (gc < W1.heap.size ∧ W1.cell? ⟨gc, oc + j * 257, none⟩ = some (.int .i64 d))) (HLE : Hid (decide (b ≤ d) = LE))
    (s0 s1 s2 s3 s4 s6 s7 s8 s9 s12 s13 s14 s15 s16 s17 s18 s19 s20 s21 s22 s23 s24 s25 s26 s27 s28 s29 s30 s31 s32 s33 s34 s35 s36 s37 s38 s39 s40 s41 s42 s43 s44 s45 s46 s47 s48 s49 s50 s51 s52 s53 s54 s55 s56 s57 s58 s59 s60 s61 s62 s63 s64 s65 s66 s67 s68 s69 s70 s71 s72 s73 s74 s75 s76 s77 s78 s79 s80 s81 s82 s83 s84 s85 s86 s87 s88 s89 s90 s91 s92 s93 s94 s95 s96 s97 s98 s99 s100 s101 s102 s103 s104 s105 s106 s107 s108 s109 s110 s111 s112 s113 s114 s115 s116 : Value) (Q : Exit → Act → World → Prop) (HK : Hid (∀ u60 u61 u62 u63 u64 u65 u66 u67 u68 u69 u70 u71 u72 wz, Touch [] W1 wz → Q .normal ⟨(s0 :: s1 :: s2 :: s3 :: s4 :: .pointer (some ⟨Y, 0, none⟩) :: s6 :: s7 :: s8 :: s9 :: .int .i64 ((j + 1 : Nat) : Int) :: .pointer (some ⟨X, 0, none⟩) :: s12 :: s13 :: s14 :: s15 :: s16 :: s17 :: s18 :: s19 :: s20 :: s21 :: s22 :: s23 :: s24 :: s25 :: s26 :: s27 :: s28 :: s29 :: s30 :: s31 :: s32 :: s33 :: s34 :: s35 :: s36 :: s37 :: s38 :: s39 :: s40 :: s41 :: s42 :: s43 :: s44 :: s45 :: s46 :: s47 :: s48 :: s49 :: s50 :: s51 :: s52 :: s53 :: s54 :: s55 :: s56 :: s57 :: s58 :: s59 :: u60 :: u61 :: u62 :: u63 :: u64 :: u65 :: u66 :: u67 :: u68 :: u69 :: u70 :: u71 :: u72 :: .bool LE :: s74 :: s75 :: s76 :: s77 :: s78 :: s79 :: s80 :: s81 :: s82 :: s83 :: s84 :: s85 :: s86 :: s87 :: s88 :: s89 :: s90 :: s91 :: s92 :: s93 :: s94 :: s95 :: s96 :: s97 :: s98 :: s99 :: s100 :: s101 :: s102 :: s103 :: s104 :: s105 :: s106 :: s107 :: s108 :: s109 :: s110 :: s111 :: s112 :: s113 :: s114 :: s115 :: s116 :: []).toArray, []⟩ (wz))) : may_reg9bCode.wp Try.prog Q ⟨(s0 :: s1 :: s2 :: s3 :: s4 :: .pointer (some ⟨Y, 0, none⟩) :: s6 :: s7 :: s8 :: s9 :: .int .i64 ((j + 1 : Nat) : Int) :: .pointer (some ⟨X, 0, none⟩) :: s12 :: s13 :: s14 :: s15 :: s16 :: s17 :: s18 :: s19 :: s20 :: s21 :: s22 :: s23 :: s24 :: s25 :: s26 :: s27 :: s28 :: s29 :: s30 :: s31 :: s32 :: s33 :: s34 :: s35 :: s36 :: s37 :: s38 :: s39 :: s40 :: s41 :: s42 :: s43 :: s44 :: s45 :: s46 :: s47 :: s48 :: s49 :: s50 :: s51 :: s52 :: s53 :: s54 :: s55 :: s56 :: s57 :: s58 :: s59 :: s60 :: s61 :: s62 :: s63 :: s64 :: s65 :: s66 :: s67 :: s68 :: s69 :: s70 :: s71 :: s72 :: s73 :: s74 :: s75 :: s76 :: s77 :: s78 :: s79 :: s80 :: s81 :: s82 :: s83 :: s84 :: s85 :: s86 :: s87 :: s88 :: s89 :: s90 :: s91 :: s92 :: s93 :: s94 :: s95 :: s96 :: s97 :: s98 :: s99 :: s100 :: s101 :: s102 :: s103 :: s104 :: s105 :: s106 :: s107 :: s108 :: s109 :: s110 :: s111 :: s112 :: s113 :: s114 :: s115 :: s116 :: []).toArray, []⟩ W1 := by
  conv => arg 2; whnf
  refine wp_region_facts (by kernel_rfl) [[], [(0, some 60)], [(1, some 61)], [(2, some 62)], [(2, some 62), (3, some 63)], [(2, some 62)], [(2, some 62), (5, some 65)], [(2, some 62)], [(2, some 62), (7, some 67)], [(2, some 62), (6, some 66), (8, some 68)], [(2, some 62), (9, some 69)], [(2, some 62), (10, some 70)], [(2, some 62), (4, some 64), (11, some 71)], [(2, some 62), (12, some 72)]] [(0, some 60), (1, some 61), (2, some 62), (3, some 63), (4, some 64), (5, some 65), (6, some 66), (7, some 67), (8, some 68), (9, some 69), (10, some 70), (11, some 71), (12, some 72), (13, some 73)] (by kernel_rfl) (by kernel_rfl) (by kernel_rfl) (Touch []) (Touch.refl []) (fun _ _ _ h h' => h.trans h' (fun i hi => .inl hi)) [Is (Value.int .i64 ((j + 1 : Nat) : Int)), Is (Value.bool true), Is (Value.bool true), Is (Value.pointer (some ⟨X, 0, none⟩)), Is (Value.int .i64 b), Is (Value.pointer (some ⟨Y, 1, none⟩)), Is (Value.slice (some ⟨gc, oc, none⟩) n cc), Is (Value.int .i64 ((j + 1 : Nat) : Int)), Is (Value.int .i64 (j : Int)), Is (Value.pointer (some ⟨gc, oc + j * 257, none⟩)), Is (Value.pointer (some ⟨gc, oc + j * 257, none⟩)), Is (Value.int .i64 d), Is (Value.bool LE), Is (Value.bool LE)] rfl ⟨is_stab _ _, is_stab _ _, is_stab _ _, is_stab _ _, is_stab _ _, is_stab _ _, is_stab _ _, is_stab _ _, is_stab _ _, is_stab _ _, is_stab _ _, is_stab _ _, is_stab _ _, is_stab _ _, trivial⟩ ⟨?o0, ?o1, ?o2, ?o3, ?o4, ?o5, ?o6, ?o7, ?o8, ?o9, ?o10, ?o11, ?o12, ?o13, trivial⟩ ?_
  case o0 =>
    intro vals wq hRq hpq
    simp only [List.getD_cons_zero, List.getD_cons_succ, canonP]
    simp only [Oper.gives]
    go_simp
    exact ⟨is_mk _ _, (Touch.refl []) _⟩
  case o1 =>
    intro vals wq hRq hpq
    simp only [factsP, List.getD_cons_zero, List.getD_cons_succ] at hpq
    have f0 := hpq.1
    replace hpq := hpq.2
    clear hpq
    replace f0 : vals 0 = _ := f0
    simp only [List.getD_cons_zero, List.getD_cons_succ, canonP, f0]
    clear f0
    have hj0 : (0 : Int) < ((j + 1 : Nat) : Int) := by omega
    simp only [Oper.gives]
    go_simp
    exact ⟨is_mk _ _, Touch.refl _ _⟩
  case o2 =>
    intro vals wq hRq hpq
    simp only [factsP, List.getD_cons_zero, List.getD_cons_succ] at hpq
    have f1 := hpq.1
    replace hpq := hpq.2
    clear hpq
    replace f1 : vals 1 = _ := f1
    simp only [List.getD_cons_zero, List.getD_cons_succ, canonP, f1]
    clear f1
    simp only [Oper.gives]
    go_simp
    exact ⟨is_mk _ _, (Touch.refl []) _⟩
  case o3 =>
    intro vals wq hRq hpq
    simp only [factsP, List.getD_cons_zero, List.getD_cons_succ] at hpq
    have f2 := hpq.1
    replace hpq := hpq.2
    clear hpq
    replace f2 : vals 2 = _ := f2
    simp only [List.getD_cons_zero, List.getD_cons_succ, canonP, f2]
    clear f2
    simp only [Oper.gives]
    go_simp
    exact ⟨is_mk _ _, (Touch.refl []) _⟩
  case o4 =>
    intro vals wq hRq hpq
    simp only [factsP, List.getD_cons_zero, List.getD_cons_succ] at hpq
    have f2 := hpq.1
    replace hpq := hpq.2
    have f3 := hpq.1
    replace hpq := hpq.2
    clear hpq
    replace f2 : vals 2 = _ := f2
    replace f3 : vals 3 = _ := f3
    simp only [List.getD_cons_zero, List.getD_cons_succ, canonP, f2, f3]
    clear f2 f3
    have hcc : wq.cell? ⟨X, 0, none⟩ = some (.int .i64 b) := (Touch.cell ((Touch.drew [] W1).trans hRq (by simp)) (a := ⟨X, 0, none⟩) HX0.out.1 (by simp)).trans HX0.out.2
    simp only [Oper.gives]
    go_simp
    exact ⟨is_mk _ _, Touch.refl _ _⟩
  case o5 =>
    intro vals wq hRq hpq
    simp only [factsP, List.getD_cons_zero, List.getD_cons_succ] at hpq
    have f2 := hpq.1
    replace hpq := hpq.2
    clear hpq
    replace f2 : vals 2 = _ := f2
    simp only [List.getD_cons_zero, List.getD_cons_succ, canonP, f2]
    clear f2
    simp only [Oper.gives]
    go_simp
    exact ⟨is_mk _ _, (Touch.refl []) _⟩
  case o6 =>
    intro vals wq hRq hpq
    simp only [factsP, List.getD_cons_zero, List.getD_cons_succ] at hpq
    have f2 := hpq.1
    replace hpq := hpq.2
    have f5 := hpq.1
    replace hpq := hpq.2
    clear hpq
    replace f2 : vals 2 = _ := f2
    replace f5 : vals 5 = _ := f5
    simp only [List.getD_cons_zero, List.getD_cons_succ, canonP, f2, f5]
    clear f2 f5
    have hcc : wq.cell? ⟨Y, 1, none⟩ = some (.slice (some ⟨gc, oc, none⟩) n cc) := (Touch.cell ((Touch.drew [] W1).trans hRq (by simp)) (a := ⟨Y, 1, none⟩) HY1.out.1 (by simp)).trans HY1.out.2
    simp only [Oper.gives]
    go_simp
    exact ⟨is_mk _ _, Touch.refl _ _⟩
  case o7 =>
    intro vals wq hRq hpq
    simp only [factsP, List.getD_cons_zero, List.getD_cons_succ] at hpq
    have f2 := hpq.1
    replace hpq := hpq.2
    clear hpq
    replace f2 : vals 2 = _ := f2
    simp only [List.getD_cons_zero, List.getD_cons_succ, canonP, f2]
    clear f2
    simp only [Oper.gives]
    go_simp
    exact ⟨is_mk _ _, (Touch.refl []) _⟩
  case o8 =>
    intro vals wq hRq hpq
    simp only [factsP, List.getD_cons_zero, List.getD_cons_succ] at hpq
    have f2 := hpq.1
    replace hpq := hpq.2
    have f7 := hpq.1
    replace hpq := hpq.2
    clear hpq
    replace f2 : vals 2 = _ := f2
    replace f7 : vals 7 = _ := f7
    simp only [List.getD_cons_zero, List.getD_cons_succ, canonP, f2, f7]
    clear f2 f7
    have hj1 := HJ.out
    have hj2 : IntKind.i64.wrap (j : Int) = (j : Int) := by rw [IntKind.wrap_i64] <;> omega
    simp only [Oper.gives]
    go_simp
    exact ⟨is_mk _ _, Touch.refl _ _⟩
  case o9 =>
    intro vals wq hRq hpq
    simp only [factsP, List.getD_cons_zero, List.getD_cons_succ] at hpq
    have f2 := hpq.1
    replace hpq := hpq.2
    have f6 := hpq.1
    replace hpq := hpq.2
    have f8 := hpq.1
    replace hpq := hpq.2
    clear hpq
    replace f2 : vals 2 = _ := f2
    replace f6 : vals 6 = _ := f6
    replace f8 : vals 8 = _ := f8
    simp only [List.getD_cons_zero, List.getD_cons_succ, canonP, f2, f6, f8]
    clear f2 f6 f8
    have hj1 := HJ.out
    have b0 : (0 : Int) ≤ (j : Int) := by omega
    have b1 : (j : Int) < (n : Int) := by omega
    simp only [Oper.gives]
    go_simp
    exact ⟨is_mk _ _, Touch.refl _ _⟩
  case o10 =>
    intro vals wq hRq hpq
    simp only [factsP, List.getD_cons_zero, List.getD_cons_succ] at hpq
    have f2 := hpq.1
    replace hpq := hpq.2
    have f9 := hpq.1
    replace hpq := hpq.2
    clear hpq
    replace f2 : vals 2 = _ := f2
    replace f9 : vals 9 = _ := f9
    simp only [List.getD_cons_zero, List.getD_cons_succ, canonP, f2, f9]
    clear f2 f9
    simp only [Oper.gives]
    go_simp
    exact ⟨is_mk _ _, (Touch.refl []) _⟩
  case o11 =>
    intro vals wq hRq hpq
    simp only [factsP, List.getD_cons_zero, List.getD_cons_succ] at hpq
    have f2 := hpq.1
    replace hpq := hpq.2
    have f10 := hpq.1
    replace hpq := hpq.2
    clear hpq
    replace f2 : vals 2 = _ := f2
    replace f10 : vals 10 = _ := f10
    simp only [List.getD_cons_zero, List.getD_cons_succ, canonP, f2, f10]
    clear f2 f10
    have hcc : wq.cell? ⟨gc, oc + j * 257, none⟩ = some (.int .i64 d) := (Touch.cell ((Touch.drew [] W1).trans hRq (by simp)) (a := ⟨gc, oc + j * 257, none⟩) HD.out.1 (by simp)).trans HD.out.2
    simp only [Oper.gives]
    go_simp
    exact ⟨is_mk _ _, Touch.refl _ _⟩
  case o12 =>
    intro vals wq hRq hpq
    simp only [factsP, List.getD_cons_zero, List.getD_cons_succ] at hpq
    have f2 := hpq.1
    replace hpq := hpq.2
    have f4 := hpq.1
    replace hpq := hpq.2
    have f11 := hpq.1
    replace hpq := hpq.2
    clear hpq
    replace f2 : vals 2 = _ := f2
    replace f4 : vals 4 = _ := f4
    replace f11 : vals 11 = _ := f11
    simp only [List.getD_cons_zero, List.getD_cons_succ, canonP, f2, f4, f11]
    clear f2 f4 f11
    have hle := HLE.out
    simp only [Oper.gives]
    go_simp
    exact ⟨is_mk _ _, Touch.refl _ _⟩
  case o13 =>
    intro vals wq hRq hpq
    simp only [factsP, List.getD_cons_zero, List.getD_cons_succ] at hpq
    have f2 := hpq.1
    replace hpq := hpq.2
    have f12 := hpq.1
    replace hpq := hpq.2
    clear hpq
    replace f2 : vals 2 = _ := f2
    replace f12 : vals 12 = _ := f12
    simp only [List.getD_cons_zero, List.getD_cons_succ, canonP, f2, f12]
    clear f2 f12
    simp only [Oper.gives]
    go_simp
    exact ⟨is_mk _ _, (Touch.refl []) _⟩
  intro vals wz hRwz hfwz
  simp only [AllFacts] at hfwz
  have g0 := hfwz.1
  replace hfwz := hfwz.2
  have g1 := hfwz.1
  replace hfwz := hfwz.2
  have g2 := hfwz.1
  replace hfwz := hfwz.2
  have g3 := hfwz.1
  replace hfwz := hfwz.2
  have g4 := hfwz.1
  replace hfwz := hfwz.2
  have g5 := hfwz.1
  replace hfwz := hfwz.2
  have g6 := hfwz.1
  replace hfwz := hfwz.2
  have g7 := hfwz.1
  replace hfwz := hfwz.2
  have g8 := hfwz.1
  replace hfwz := hfwz.2
  have g9 := hfwz.1
  replace hfwz := hfwz.2
  have g10 := hfwz.1
  replace hfwz := hfwz.2
  have g11 := hfwz.1
  replace hfwz := hfwz.2
  have g12 := hfwz.1
  replace hfwz := hfwz.2
  have g13 := hfwz.1
  replace hfwz := hfwz.2
  clear hfwz
  replace g0 : vals 0 = _ := g0
  replace g1 : vals 1 = _ := g1
  replace g2 : vals 2 = _ := g2
  replace g3 : vals 3 = _ := g3
  replace g4 : vals 4 = _ := g4
  replace g5 : vals 5 = _ := g5
  replace g6 : vals 6 = _ := g6
  replace g7 : vals 7 = _ := g7
  replace g8 : vals 8 = _ := g8
  replace g9 : vals 9 = _ := g9
  replace g10 : vals 10 = _ := g10
  replace g11 : vals 11 = _ := g11
  replace g12 : vals 12 = _ := g12
  replace g13 : vals 13 = _ := g13
  simp only [canonP, Act.put, List.setIfInBounds_toArray, List.set_cons_succ, List.set_cons_zero, g0, g1, g2, g3, g4, g5, g6, g7, g8, g9, g10, g11, g12, g13]
  clear g0 g1 g2 g3 g4 g5 g6 g7 g8 g9 g10 g11 g12 g13
  exact HK.out _ _ _ _ _ _ _ _ _ _ _ _ _ _ ((Touch.drew [] W1).trans hRwz (by simp))
#print axioms may_reg9b
/-! ### plainly -/
def G4.May (g : G4) : Prop := Geo.May g.gr g.sz g.ni g.jr
/-- a block of the geometry's, outside the journal -/
def inG (g : G4) (b : Int) : Prop := 0 ≤ b ∧ b < 2 + g.jr + g.gr * g.sz ∧ ¬ (2 ≤ b ∧ b < 2 + g.jr)
theorem what_g {g : G4} (hM : g.May) (b : Int) : ∃ (k : Nat) (p q : Int), k < 256 ∧ (k = 0 ∨ k = 3 ↔ ¬ inG g b) ∧ ∀ w, Calls Try.prog 39 #[.agg #[.int .i64 g.gr, .int .i64 g.sz, .int .i64 g.ni, .int .i64 g.jr], .int .i64 b] w fun e w' => e = .returned (.tuple #[.int .u8 (k : Int), .int .i64 p, .int .i64 q]) ∧ Grow w w' := by
  have hw := fun w => Geo.what_any g.gr g.sz g.ni g.jr b w
  unfold G4.May at hM
  have hM0 := hM
  obtain ⟨h1, h2, h3, h4, h5, h6, h7, h8, h9, h10, h11⟩ := hM
  have hN : Geo.nBlocks g.gr g.sz g.ni g.jr = 2 + g.jr + g.gr * g.sz := by unfold Geo.nBlocks; rw [if_pos hM0]
  unfold Geo.whatOf at hw
  rw [hN] at hw
  unfold inG
  by_cases hc : 0 ≤ b ∧ b < 2 + g.jr + g.gr * g.sz
  · simp only [if_pos (show Geo.May g.gr g.sz g.ni g.jr ∧ 0 ≤ b ∧ b < 2 + g.jr + g.gr * g.sz from ⟨hM0, hc⟩)] at hw
    obtain ⟨t, ht⟩ : ∃ t, Geo.whatT g.sz.toNat g.ni.toNat g.jr.toNat b.toNat = t := ⟨_, rfl⟩
    rw [ht] at hw
    refine ⟨t.kind, (t.group : Int), (t.pos : Int), ?_, ?_, hw⟩
    · rw [← ht]
      unfold Geo.whatT
      generalize (b.toNat - 2 - g.jr.toNat) % g.sz.toNat = md
      generalize (b.toNat - 2 - g.jr.toNat) / g.sz.toNat = dv
      split
      · simp only; omega
      · split
        · simp only; omega
        · split
          · simp only; omega
          · split <;> (simp only; omega)
    · rw [← ht]
      unfold Geo.whatT
      generalize (b.toNat - 2 - g.jr.toNat) % g.sz.toNat = md
      generalize (b.toNat - 2 - g.jr.toNat) / g.sz.toNat = dv
      split
      · refine ⟨fun h => absurd h (by simp only; omega), fun h => absurd ⟨hc.1, hc.2, by omega⟩ h⟩
      · split
        · refine ⟨fun _ h => h.2.2 (by omega), fun _ => .inr rfl⟩
        · split
          · refine ⟨fun h => absurd h (by simp only; omega), fun h => absurd ⟨hc.1, hc.2, by omega⟩ h⟩
          · split
            · refine ⟨fun h => absurd h (by simp only; omega), fun h => absurd ⟨hc.1, hc.2, by omega⟩ h⟩
            · refine ⟨fun h => absurd h (by simp only; omega), fun h => absurd ⟨hc.1, hc.2, by omega⟩ h⟩
  · simp only [if_neg (show ¬ (Geo.May g.gr g.sz g.ni g.jr ∧ 0 ≤ b ∧ b < 2 + g.jr + g.gr * g.sz) from fun h => hc h.2)] at hw
    exact ⟨0, 0, 0, by omega, ⟨fun _ h => hc ⟨h.1, h.2.1⟩, fun _ => .inl rfl⟩, hw⟩
/-- may a copy, a revoked block stand behind the one ahead of it? -/
def cOk (g : G4) (cs : List Cp) (i : Nat) : Prop := ∀ c, cs[i]? = some c → (∀ d, 0 < i → cs[i - 1]? = some d → d.1 < c.1) ∧ inG g c.1
def rOk (rs : List Int) (i : Nat) : Prop := ∀ r, rs[i]? = some r → 0 ≤ r ∧ ∀ d, 0 < i → rs[i - 1]? = some d → d < r
/-- may a transaction be added? -/
structure mayP (g : G4) (s : CS) (seq : Nat) (cs : List Cp) (rs : List Int) (start count : Int) : Prop where
  start : 1 ≤ start ∧ start ≤ g.jr - 1
  count : 1 ≤ count ∧ count ≤ g.jr - 1
  seq : s.added = true → s.last < seq
  cs : ∀ i, cOk g cs i
  rs : ∀ i, rOk rs i
#print axioms what_g
/-! ### rows that are only read -/
/-- elements that lie one behind the other -/
def See (w : World) (sz : Nat) (v : Value) (l : List (List Value)) : Prop := ∃ a cap, v = .slice a l.length cap ∧ ∀ k c, l[k]? = some c → ∃ g o, a = some ⟨g, o, none⟩ ∧ g < w.heap.size ∧ w.rangeAt g (o + k * sz) c
theorem GRow.see {w : World} {e sz : Nat} {v : Value} {l : List (List Value)} (h : GRow w e sz v l) : See w sz v l := by
  obtain ⟨a, cap, rfl⟩ := h.len
  refine ⟨a, cap, rfl, fun k c hk => ?_⟩
  obtain ⟨g, o, rfl, hkd, hr⟩ := h.at_ hk
  exact ⟨g, o, rfl, hkd.lt, hr⟩
theorem Row.see {w : World} {e sz : Nat} {v : Value} {l : List (List Value)} (h : Row w e sz v l) : See w sz v l := (Row.g h).see
theorem See.grow {w w' : World} {sz : Nat} {v : Value} {l : List (List Value)} (h : See w sz v l) (hg : Grow w w') : See w' sz v l := by
  obtain ⟨a, cap, hv, hi⟩ := h
  refine ⟨a, cap, hv, fun k c hk => ?_⟩
  obtain ⟨g, o, ha, hl, hr⟩ := hi k c hk
  exact ⟨g, o, ha, Nat.lt_of_lt_of_le hl hg.size, fun j u hj => (hg.cell (p := ⟨g, o + k * sz + j, none⟩) hl).trans (hr j u hj)⟩
def CSee (w : World) (v : Value) (cs : List Cp) : Prop := See w 257 v (cs.map ccell) ∧ ∀ c ∈ cs, CpOk c
def ISee (w : World) (v : Value) (zs : List Int) : Prop := See w 1 v (zs.map icell) ∧ ∀ z ∈ zs, IntOk z
theorem CSee.grow {w w' : World} {v : Value} {cs : List Cp} (h : CSee w v cs) (hg : Grow w w') : CSee w' v cs := ⟨h.1.grow hg, h.2⟩
theorem ISee.grow {w w' : World} {v : Value} {cs : List Int} (h : ISee w v cs) (hg : Grow w w') : ISee w' v cs := ⟨h.1.grow hg, h.2⟩
theorem CSee.len {w : World} {v : Value} {cs : List Cp} (h : CSee w v cs) : ∃ a cap, v = .slice a cs.length cap := by
  obtain ⟨a, cap, hv, _⟩ := h.1
  exact ⟨a, cap, by rw [hv, List.length_map]⟩
theorem ISee.len {w : World} {v : Value} {cs : List Int} (h : ISee w v cs) : ∃ a cap, v = .slice a cs.length cap := by
  obtain ⟨a, cap, hv, _⟩ := h.1
  exact ⟨a, cap, by rw [hv, List.length_map]⟩
theorem CSee.at_ {w : World} {a : Option Addr} {n cap : Nat} {cs : List Cp} (h : CSee w (.slice a n cap) cs) {k : Nat} {c : Cp} (hk : cs[k]? = some c) : ∃ g o, a = some ⟨g, o, none⟩ ∧ g < w.heap.size ∧ w.rangeAt g (o + k * 257) (ccell c) ∧ w.cell? ⟨g, o + k * 257, none⟩ = some (.int .i64 c.1) ∧ CpOk c := by
  obtain ⟨a', cap', hv, hi⟩ := h.1
  obtain ⟨g, o, ha, hl, hr⟩ := hi k (ccell c) (by rw [List.getElem?_map, hk]; rfl)
  cases hv
  exact ⟨g, o, ha, hl, hr, hr 0 _ rfl, h.2 c (List.mem_of_getElem? hk)⟩
theorem ISee.at_ {w : World} {a : Option Addr} {n cap : Nat} {zs : List Int} (h : ISee w (.slice a n cap) zs) {k : Nat} {z : Int} (hk : zs[k]? = some z) : ∃ g o, a = some ⟨g, o, none⟩ ∧ g < w.heap.size ∧ w.cell? ⟨g, o + k, none⟩ = some (.int .i64 z) ∧ IntOk z := by
  obtain ⟨a', cap', hv, hi⟩ := h.1
  obtain ⟨g, o, ha, hl, hr⟩ := hi k (icell z) (by rw [List.getElem?_map, hk]; rfl)
  cases hv
  have h0 := hr 0 _ rfl
  rw [Nat.mul_one] at h0
  exact ⟨g, o, ha, hl, h0, h.2 z (List.mem_of_getElem? hk)⟩

end Go.Proofs.Ytokehhegomiciaa
