/- awake's last region, over letters. -/
import Derived.Test.YtieknecbheeekaaDoorN2
set_option linter.unusedVariables false
set_option linter.unusedSimpArgs false
namespace Go.Proofs.YtieknecbheeekaaDoor
open Go.RowKit Go.Maps
noncomputable def aw_reg5Code : Code := regById 5 (codesOf (Tryd.f9.body.getD .skip))
set_option maxRecDepth 100000 in
set_option maxHeartbeats 4000000 in
theorem aw_reg5 (g cap : Nat) (bz : List Value) (BZ : Array Value) (W1 : World) (k0 : Hid (g < W1.heap.size ∧ W1.cell? ⟨g, 0, none⟩ = some (.int .u8 1))) (k1 : Hid (g < W1.heap.size ∧ W1.cell? ⟨g, 1, none⟩ = some (.int .i64 61))) (k2 : Hid (g < W1.heap.size ∧ W1.cell? ⟨g, 259, none⟩ = some (.int .i64 2))) (k3 : Hid (g < W1.heap.size ∧ W1.cell? ⟨g, 517, none⟩ = some (.int .i64 5))) (k4 : Hid (g < W1.heap.size ∧ W1.rangeAt g 776 bz)) (k5 : Hid (g < W1.heap.size ∧ W1.cell? ⟨g, 1032, none⟩ = some (.int .u8 3))) (k6 : Hid (g < W1.heap.size ∧ W1.cell? ⟨g, 1291, none⟩ = some (.int .i64 7))) (k7 : Hid (g < W1.heap.size ∧ W1.cell? ⟨g, 1548, none⟩ = some (.int .u8 3))) (HBZ : Hid (bz.toArray = BZ)) (HSL : Hid ((Tryd.prog.info? 34).map (·.size) = some bz.length)) (hq1 : ∀ w, (binOp .eql 34 (.agg BZ) (.agg BZ)).run Tryd.prog w = .ok (.bool true) w) (hq2 : ∀ x y w, (eqGuard .eql 34 x y (.agg BZ) (.agg BZ)).run Tryd.prog w = .ok () w) (HF : Hid (∀ w, Calls Tryd.prog 20 #[.int .u32 1] w fun e w' => e = .returned (.agg BZ) ∧ Grow w w'))
    (s0 s1 s3 s4 s5 s6 s7 s8 s9 s10 s11 s12 s13 s14 s15 s16 s17 s18 s19 s20 s21 s22 s23 s24 s25 s26 s27 s28 s29 s30 s31 s32 s33 s34 s35 s36 s37 s38 s39 s40 s41 s42 s43 s44 s45 s46 s47 s48 s49 s50 s51 s52 s53 s54 s55 s56 s57 s58 s59 s60 s61 s62 s63 s64 s65 s66 s67 s68 s69 s70 s71 s72 s73 s74 s75 s76 s77 : Value) (Q : Exit → Act → World → Prop) (HK : Hid (∀ u23 u24 u25 u26 u27 u28 u29 u30 u31 u32 u33 u34 u35 u36 u37 u38 u39 u40 u41 u42 u43 u44 u45 u46 u47 u48 u49 u50 u51 u52 u53 u54 u55 u56 u57 u58 u59 u60 u61 u62 u63 u64 u65 u66 u67 u68 u69 u70 u71 u72 u73 u74 u75 u76 u77 wz, Grow W1 wz → Q .normal ⟨(.bool true :: s1 :: .slice (some ⟨g, 0, none⟩) 7 cap :: s3 :: s4 :: s5 :: s6 :: s7 :: s8 :: s9 :: s10 :: s11 :: s12 :: s13 :: s14 :: s15 :: s16 :: s17 :: s18 :: s19 :: s20 :: s21 :: s22 :: u23 :: u24 :: u25 :: u26 :: u27 :: u28 :: u29 :: u30 :: u31 :: u32 :: u33 :: u34 :: u35 :: u36 :: u37 :: u38 :: u39 :: u40 :: u41 :: u42 :: u43 :: u44 :: u45 :: u46 :: u47 :: u48 :: u49 :: u50 :: u51 :: u52 :: u53 :: u54 :: u55 :: u56 :: u57 :: u58 :: u59 :: u60 :: u61 :: u62 :: u63 :: u64 :: u65 :: u66 :: u67 :: u68 :: u69 :: u70 :: u71 :: u72 :: u73 :: u74 :: u75 :: u76 :: u77 :: []).toArray, []⟩ (wz))) : aw_reg5Code.wp Tryd.prog Q ⟨(s0 :: s1 :: .slice (some ⟨g, 0, none⟩) 7 cap :: s3 :: s4 :: s5 :: s6 :: s7 :: s8 :: s9 :: s10 :: s11 :: s12 :: s13 :: s14 :: s15 :: s16 :: s17 :: s18 :: s19 :: s20 :: s21 :: s22 :: s23 :: s24 :: s25 :: s26 :: s27 :: s28 :: s29 :: s30 :: s31 :: s32 :: s33 :: s34 :: s35 :: s36 :: s37 :: s38 :: s39 :: s40 :: s41 :: s42 :: s43 :: s44 :: s45 :: s46 :: s47 :: s48 :: s49 :: s50 :: s51 :: s52 :: s53 :: s54 :: s55 :: s56 :: s57 :: s58 :: s59 :: s60 :: s61 :: s62 :: s63 :: s64 :: s65 :: s66 :: s67 :: s68 :: s69 :: s70 :: s71 :: s72 :: s73 :: s74 :: s75 :: s76 :: s77 :: []).toArray, []⟩ W1 := by
  conv => arg 2; whnf
  refine wp_region_facts (by kernel_rfl) [[], [(0, some 23)], [(1, some 24)], [(2, some 25)], [(3, some 26)], [(4, some 27)], [(5, some 28)], [(5, some 28), (6, some 29)], [(5, some 28), (7, some 30)], [(5, some 28), (8, some 31)], [(5, some 28), (9, some 32)], [(5, some 28), (10, some 33)], [(5, some 28), (11, some 34)], [(12, some 35)], [(12, some 35), (13, some 36)], [(12, some 35), (14, some 37)], [(12, some 35), (15, some 38)], [(12, some 35), (16, some 39)], [(12, some 35), (17, some 40)], [(12, some 35), (18, some 41)], [(19, some 42)], [(19, some 42), (20, some 43)], [(19, some 42), (21, some 44)], [(19, some 42), (22, some 45)], [(19, some 42), (23, some 46)], [(19, some 42), (24, some 47)], [(19, some 42), (25, some 48)], [(26, some 49)], [(26, some 49), (27, some 50)], [(26, some 49), (28, some 51)], [(26, some 49), (29, some 52)], [(26, some 49)], [(26, some 49), (30, some 53), (31, some 54)], [(26, some 49), (32, some 55)], [(31, some 54), (33, some 56)], [(34, some 57)], [(34, some 57), (35, some 58)], [(34, some 57), (36, some 59)], [(34, some 57), (37, some 60)], [(34, some 57), (38, some 61)], [(34, some 57), (39, some 62)], [(34, some 57), (40, some 63)], [(41, some 64)], [(41, some 64), (42, some 65)], [(41, some 64), (43, some 66)], [(41, some 64), (44, some 67)], [(41, some 64), (45, some 68)], [(41, some 64), (46, some 69)], [(41, some 64), (47, some 70)], [(48, some 71)], [(48, some 71), (49, some 72)], [(48, some 71), (50, some 73)], [(48, some 71), (51, some 74)], [(48, some 71), (52, some 75)], [(48, some 71), (53, some 76)], [(0, some 23), (1, some 24), (2, some 25), (3, some 26), (4, some 27), (5, some 28), (6, some 29), (7, some 30), (8, some 31), (9, some 32), (10, some 33), (11, some 34), (12, some 35), (13, some 36), (14, some 37), (15, some 38), (16, some 39), (17, some 40), (18, some 41), (19, some 42), (20, some 43), (21, some 44), (22, some 45), (23, some 46), (24, some 47), (25, some 48), (26, some 49), (27, some 50), (28, some 51), (29, some 52), (30, some 53), (31, some 54), (32, some 55), (33, some 56), (34, some 57), (35, some 58), (36, some 59), (37, some 60), (38, some 61), (39, some 62), (40, some 63), (41, some 64), (42, some 65), (43, some 66), (44, some 67), (45, some 68), (46, some 69), (47, some 70), (48, some 71), (49, some 72), (50, some 73), (51, some 74), (52, some 75), (53, some 76), (54, some 77)]] [(0, some 23), (1, some 24), (2, some 25), (3, some 26), (4, some 27), (5, some 28), (6, some 29), (7, some 30), (8, some 31), (9, some 32), (10, some 33), (11, some 34), (12, some 35), (13, some 36), (14, some 37), (15, some 38), (16, some 39), (17, some 40), (18, some 41), (19, some 42), (20, some 43), (21, some 44), (22, some 45), (23, some 46), (24, some 47), (25, some 48), (26, some 49), (27, some 50), (28, some 51), (29, some 52), (30, some 53), (31, some 54), (32, some 55), (33, some 56), (34, some 57), (35, some 58), (36, some 59), (37, some 60), (38, some 61), (39, some 62), (40, some 63), (41, some 64), (42, some 65), (43, some 66), (44, some 67), (45, some 68), (46, some 69), (47, some 70), (48, some 71), (49, some 72), (50, some 73), (51, some 74), (52, some 75), (53, some 76), (54, some 77), (55, some 0)] (by kernel_rfl) (by kernel_rfl) (by kernel_rfl) (Touch []) (Touch.refl []) (fun _ _ _ h h' => h.trans h' (fun i hi => .inl hi)) [Is (Value.slice (some ⟨g, 0, none⟩) 7 cap), Is (Value.pointer (some ⟨g, 0, none⟩)), Is (Value.pointer (some ⟨g, 0, none⟩)), Is (Value.int .u8 1), Is (Value.bool true), Is (Value.bool true), Is (Value.slice (some ⟨g, 0, none⟩) 7 cap), Is (Value.pointer (some ⟨g, 0, none⟩)), Is (Value.pointer (some ⟨g, 1, none⟩)), Is (Value.int .i64 61), Is (Value.bool true), Is (Value.bool true), Is (Value.bool true), Is (Value.slice (some ⟨g, 0, none⟩) 7 cap), Is (Value.pointer (some ⟨g, 258, none⟩)), Is (Value.pointer (some ⟨g, 259, none⟩)), Is (Value.int .i64 2), Is (Value.bool true), Is (Value.bool true), Is (Value.bool true), Is (Value.slice (some ⟨g, 0, none⟩) 7 cap), Is (Value.pointer (some ⟨g, 516, none⟩)), Is (Value.pointer (some ⟨g, 517, none⟩)), Is (Value.int .i64 5), Is (Value.bool true), Is (Value.bool true), Is (Value.bool true), Is (Value.slice (some ⟨g, 0, none⟩) 7 cap), Is (Value.pointer (some ⟨g, 774, none⟩)), Is (Value.pointer (some ⟨g, 776, none⟩)), Is (Value.agg BZ), Is (Value.agg BZ), Is (Value.bool true), Is (Value.bool true), Is (Value.bool true), Is (Value.slice (some ⟨g, 0, none⟩) 7 cap), Is (Value.pointer (some ⟨g, 1032, none⟩)), Is (Value.pointer (some ⟨g, 1032, none⟩)), Is (Value.int .u8 3), Is (Value.bool true), Is (Value.bool true), Is (Value.bool true), Is (Value.slice (some ⟨g, 0, none⟩) 7 cap), Is (Value.pointer (some ⟨g, 1290, none⟩)), Is (Value.pointer (some ⟨g, 1291, none⟩)), Is (Value.int .i64 7), Is (Value.bool true), Is (Value.bool true), Is (Value.bool true), Is (Value.slice (some ⟨g, 0, none⟩) 7 cap), Is (Value.pointer (some ⟨g, 1548, none⟩)), Is (Value.pointer (some ⟨g, 1548, none⟩)), Is (Value.int .u8 3), Is (Value.bool true), Is (Value.bool true), Is (Value.bool true)] rfl ⟨is_stab _ _, is_stab _ _, is_stab _ _, is_stab _ _, is_stab _ _, is_stab _ _, is_stab _ _, is_stab _ _, is_stab _ _, is_stab _ _, is_stab _ _, is_stab _ _, is_stab _ _, is_stab _ _, is_stab _ _, is_stab _ _, is_stab _ _, is_stab _ _, is_stab _ _, is_stab _ _, is_stab _ _, is_stab _ _, is_stab _ _, is_stab _ _, is_stab _ _, is_stab _ _, is_stab _ _, is_stab _ _, is_stab _ _, is_stab _ _, is_stab _ _, is_stab _ _, is_stab _ _, is_stab _ _, is_stab _ _, is_stab _ _, is_stab _ _, is_stab _ _, is_stab _ _, is_stab _ _, is_stab _ _, is_stab _ _, is_stab _ _, is_stab _ _, is_stab _ _, is_stab _ _, is_stab _ _, is_stab _ _, is_stab _ _, is_stab _ _, is_stab _ _, is_stab _ _, is_stab _ _, is_stab _ _, is_stab _ _, is_stab _ _, trivial⟩ ⟨?o0, ?o1, ?o2, ?o3, ?o4, ?o5, ?o6, ?o7, ?o8, ?o9, ?o10, ?o11, ?o12, ?o13, ?o14, ?o15, ?o16, ?o17, ?o18, ?o19, ?o20, ?o21, ?o22, ?o23, ?o24, ?o25, ?o26, ?o27, ?o28, ?o29, ?o30, ?o31, ?o32, ?o33, ?o34, ?o35, ?o36, ?o37, ?o38, ?o39, ?o40, ?o41, ?o42, ?o43, ?o44, ?o45, ?o46, ?o47, ?o48, ?o49, ?o50, ?o51, ?o52, ?o53, ?o54, ?o55, trivial⟩ ?_
  case o0 =>
    intro vals wq hRq hpq
    simp only [List.getD_cons_zero, List.getD_cons_succ, canonP]
    rw [if_pos (by rfl)]
    simp only [Oper.gives]
    go_simp
    exact ⟨is_mk _ _, Touch.refl _ _⟩
  case o1 =>
    intro vals wq hRq hpq
    simp only [factsP, List.getD_cons_zero, List.getD_cons_succ] at hpq
    have f0 := hpq.1
    replace hpq := hpq.2
    clear hpq
    replace f0 : vals 0 = _ := f0
    simp only [List.getD_cons_zero, List.getD_cons_succ, canonP, f0]
    clear f0
    rw [if_pos (by rfl)]
    simp only [Oper.gives]
    go_simp
    exact ⟨is_mk _ _, Touch.refl _ _⟩
  case o2 =>
    intro vals wq hRq hpq
    simp only [factsP, List.getD_cons_zero, List.getD_cons_succ] at hpq
    have f1 := hpq.1
    replace hpq := hpq.2
    clear hpq
    replace f1 : vals 1 = _ := f1
    simp only [List.getD_cons_zero, List.getD_cons_succ, canonP, f1]
    clear f1
    rw [if_pos (by rfl)]
    simp only [Oper.gives]
    go_simp
    exact ⟨is_mk _ _, Touch.refl _ _⟩
  case o3 =>
    intro vals wq hRq hpq
    simp only [factsP, List.getD_cons_zero, List.getD_cons_succ] at hpq
    have f2 := hpq.1
    replace hpq := hpq.2
    clear hpq
    replace f2 : vals 2 = _ := f2
    simp only [List.getD_cons_zero, List.getD_cons_succ, canonP, f2]
    clear f2
    rw [if_pos (by rfl)]
    have hcc : wq.cell? ⟨g, 0, none⟩ = some (.int .u8 1) := (Touch.cell ((Touch.drew [] W1).trans hRq (by simp)) (a := ⟨g, 0, none⟩) k0.out.1 (by simp)).trans k0.out.2
    simp only [Oper.gives]
    go_simp
    exact ⟨is_mk _ _, Touch.refl _ _⟩
  case o4 =>
    intro vals wq hRq hpq
    simp only [factsP, List.getD_cons_zero, List.getD_cons_succ] at hpq
    have f3 := hpq.1
    replace hpq := hpq.2
    clear hpq
    replace f3 : vals 3 = _ := f3
    simp only [List.getD_cons_zero, List.getD_cons_succ, canonP, f3]
    clear f3
    rw [if_pos (by rfl)]
    simp only [Oper.gives]
    go_simp
    exact ⟨is_mk _ _, Touch.refl _ _⟩
  case o5 =>
    intro vals wq hRq hpq
    simp only [factsP, List.getD_cons_zero, List.getD_cons_succ] at hpq
    have f4 := hpq.1
    replace hpq := hpq.2
    clear hpq
    replace f4 : vals 4 = _ := f4
    simp only [List.getD_cons_zero, List.getD_cons_succ, canonP, f4]
    clear f4
    rw [if_pos (by rfl)]
    simp only [Oper.gives]
    go_simp
    exact ⟨is_mk _ _, Touch.refl _ _⟩
  case o6 =>
    intro vals wq hRq hpq
    simp only [factsP, List.getD_cons_zero, List.getD_cons_succ] at hpq
    have f5 := hpq.1
    replace hpq := hpq.2
    clear hpq
    replace f5 : vals 5 = _ := f5
    simp only [List.getD_cons_zero, List.getD_cons_succ, canonP, f5]
    clear f5
    rw [if_pos (by rfl)]
    simp only [Oper.gives]
    go_simp
    exact ⟨is_mk _ _, Touch.refl _ _⟩
  case o7 =>
    intro vals wq hRq hpq
    simp only [factsP, List.getD_cons_zero, List.getD_cons_succ] at hpq
    have f5 := hpq.1
    replace hpq := hpq.2
    have f6 := hpq.1
    replace hpq := hpq.2
    clear hpq
    replace f5 : vals 5 = _ := f5
    replace f6 : vals 6 = _ := f6
    simp only [List.getD_cons_zero, List.getD_cons_succ, canonP, f5, f6]
    clear f5 f6
    rw [if_pos (by rfl)]
    simp only [Oper.gives]
    go_simp
    exact ⟨is_mk _ _, Touch.refl _ _⟩
  case o8 =>
    intro vals wq hRq hpq
    simp only [factsP, List.getD_cons_zero, List.getD_cons_succ] at hpq
    have f5 := hpq.1
    replace hpq := hpq.2
    have f7 := hpq.1
    replace hpq := hpq.2
    clear hpq
    replace f5 : vals 5 = _ := f5
    replace f7 : vals 7 = _ := f7
    simp only [List.getD_cons_zero, List.getD_cons_succ, canonP, f5, f7]
    clear f5 f7
    rw [if_pos (by rfl)]
    simp only [Oper.gives]
    go_simp
    exact ⟨is_mk _ _, Touch.refl _ _⟩
  case o9 =>
    intro vals wq hRq hpq
    simp only [factsP, List.getD_cons_zero, List.getD_cons_succ] at hpq
    have f5 := hpq.1
    replace hpq := hpq.2
    have f8 := hpq.1
    replace hpq := hpq.2
    clear hpq
    replace f5 : vals 5 = _ := f5
    replace f8 : vals 8 = _ := f8
    simp only [List.getD_cons_zero, List.getD_cons_succ, canonP, f5, f8]
    clear f5 f8
    rw [if_pos (by rfl)]
    have hcc : wq.cell? ⟨g, 1, none⟩ = some (.int .i64 61) := (Touch.cell ((Touch.drew [] W1).trans hRq (by simp)) (a := ⟨g, 1, none⟩) k1.out.1 (by simp)).trans k1.out.2
    simp only [Oper.gives]
    go_simp
    exact ⟨is_mk _ _, Touch.refl _ _⟩
  case o10 =>
    intro vals wq hRq hpq
    simp only [factsP, List.getD_cons_zero, List.getD_cons_succ] at hpq
    have f5 := hpq.1
    replace hpq := hpq.2
    have f9 := hpq.1
    replace hpq := hpq.2
    clear hpq
    replace f5 : vals 5 = _ := f5
    replace f9 : vals 9 = _ := f9
    simp only [List.getD_cons_zero, List.getD_cons_succ, canonP, f5, f9]
    clear f5 f9
    rw [if_pos (by rfl)]
    simp only [Oper.gives]
    go_simp
    exact ⟨is_mk _ _, Touch.refl _ _⟩
  case o11 =>
    intro vals wq hRq hpq
    simp only [factsP, List.getD_cons_zero, List.getD_cons_succ] at hpq
    have f5 := hpq.1
    replace hpq := hpq.2
    have f10 := hpq.1
    replace hpq := hpq.2
    clear hpq
    replace f5 : vals 5 = _ := f5
    replace f10 : vals 10 = _ := f10
    simp only [List.getD_cons_zero, List.getD_cons_succ, canonP, f5, f10]
    clear f5 f10
    rw [if_pos (by rfl)]
    simp only [Oper.gives]
    go_simp
    exact ⟨is_mk _ _, Touch.refl _ _⟩
  case o12 =>
    intro vals wq hRq hpq
    simp only [factsP, List.getD_cons_zero, List.getD_cons_succ] at hpq
    have f5 := hpq.1
    replace hpq := hpq.2
    have f11 := hpq.1
    replace hpq := hpq.2
    clear hpq
    replace f5 : vals 5 = _ := f5
    replace f11 : vals 11 = _ := f11
    simp only [List.getD_cons_zero, List.getD_cons_succ, canonP, f5, f11]
    clear f5 f11
    rw [if_pos (by rfl)]
    simp only [Oper.gives]
    go_simp
    exact ⟨is_mk _ _, Touch.refl _ _⟩
  case o13 =>
    intro vals wq hRq hpq
    simp only [factsP, List.getD_cons_zero, List.getD_cons_succ] at hpq
    have f12 := hpq.1
    replace hpq := hpq.2
    clear hpq
    replace f12 : vals 12 = _ := f12
    simp only [List.getD_cons_zero, List.getD_cons_succ, canonP, f12]
    clear f12
    rw [if_pos (by rfl)]
    simp only [Oper.gives]
    go_simp
    exact ⟨is_mk _ _, Touch.refl _ _⟩
  case o14 =>
    intro vals wq hRq hpq
    simp only [factsP, List.getD_cons_zero, List.getD_cons_succ] at hpq
    have f12 := hpq.1
    replace hpq := hpq.2
    have f13 := hpq.1
    replace hpq := hpq.2
    clear hpq
    replace f12 : vals 12 = _ := f12
    replace f13 : vals 13 = _ := f13
    simp only [List.getD_cons_zero, List.getD_cons_succ, canonP, f12, f13]
    clear f12 f13
    rw [if_pos (by rfl)]
    simp only [Oper.gives]
    go_simp
    exact ⟨is_mk _ _, Touch.refl _ _⟩
  case o15 =>
    intro vals wq hRq hpq
    simp only [factsP, List.getD_cons_zero, List.getD_cons_succ] at hpq
    have f12 := hpq.1
    replace hpq := hpq.2
    have f14 := hpq.1
    replace hpq := hpq.2
    clear hpq
    replace f12 : vals 12 = _ := f12
    replace f14 : vals 14 = _ := f14
    simp only [List.getD_cons_zero, List.getD_cons_succ, canonP, f12, f14]
    clear f12 f14
    rw [if_pos (by rfl)]
    simp only [Oper.gives]
    go_simp
    exact ⟨is_mk _ _, Touch.refl _ _⟩
  case o16 =>
    intro vals wq hRq hpq
    simp only [factsP, List.getD_cons_zero, List.getD_cons_succ] at hpq
    have f12 := hpq.1
    replace hpq := hpq.2
    have f15 := hpq.1
    replace hpq := hpq.2
    clear hpq
    replace f12 : vals 12 = _ := f12
    replace f15 : vals 15 = _ := f15
    simp only [List.getD_cons_zero, List.getD_cons_succ, canonP, f12, f15]
    clear f12 f15
    rw [if_pos (by rfl)]
    have hcc : wq.cell? ⟨g, 259, none⟩ = some (.int .i64 2) := (Touch.cell ((Touch.drew [] W1).trans hRq (by simp)) (a := ⟨g, 259, none⟩) k2.out.1 (by simp)).trans k2.out.2
    simp only [Oper.gives]
    go_simp
    exact ⟨is_mk _ _, Touch.refl _ _⟩
  case o17 =>
    intro vals wq hRq hpq
    simp only [factsP, List.getD_cons_zero, List.getD_cons_succ] at hpq
    have f12 := hpq.1
    replace hpq := hpq.2
    have f16 := hpq.1
    replace hpq := hpq.2
    clear hpq
    replace f12 : vals 12 = _ := f12
    replace f16 : vals 16 = _ := f16
    simp only [List.getD_cons_zero, List.getD_cons_succ, canonP, f12, f16]
    clear f12 f16
    rw [if_pos (by rfl)]
    simp only [Oper.gives]
    go_simp
    exact ⟨is_mk _ _, Touch.refl _ _⟩
  case o18 =>
    intro vals wq hRq hpq
    simp only [factsP, List.getD_cons_zero, List.getD_cons_succ] at hpq
    have f12 := hpq.1
    replace hpq := hpq.2
    have f17 := hpq.1
    replace hpq := hpq.2
    clear hpq
    replace f12 : vals 12 = _ := f12
    replace f17 : vals 17 = _ := f17
    simp only [List.getD_cons_zero, List.getD_cons_succ, canonP, f12, f17]
    clear f12 f17
    rw [if_pos (by rfl)]
    simp only [Oper.gives]
    go_simp
    exact ⟨is_mk _ _, Touch.refl _ _⟩
  case o19 =>
    intro vals wq hRq hpq
    simp only [factsP, List.getD_cons_zero, List.getD_cons_succ] at hpq
    have f12 := hpq.1
    replace hpq := hpq.2
    have f18 := hpq.1
    replace hpq := hpq.2
    clear hpq
    replace f12 : vals 12 = _ := f12
    replace f18 : vals 18 = _ := f18
    simp only [List.getD_cons_zero, List.getD_cons_succ, canonP, f12, f18]
    clear f12 f18
    rw [if_pos (by rfl)]
    simp only [Oper.gives]
    go_simp
    exact ⟨is_mk _ _, Touch.refl _ _⟩
  case o20 =>
    intro vals wq hRq hpq
    simp only [factsP, List.getD_cons_zero, List.getD_cons_succ] at hpq
    have f19 := hpq.1
    replace hpq := hpq.2
    clear hpq
    replace f19 : vals 19 = _ := f19
    simp only [List.getD_cons_zero, List.getD_cons_succ, canonP, f19]
    clear f19
    rw [if_pos (by rfl)]
    simp only [Oper.gives]
    go_simp
    exact ⟨is_mk _ _, Touch.refl _ _⟩
  case o21 =>
    intro vals wq hRq hpq
    simp only [factsP, List.getD_cons_zero, List.getD_cons_succ] at hpq
    have f19 := hpq.1
    replace hpq := hpq.2
    have f20 := hpq.1
    replace hpq := hpq.2
    clear hpq
    replace f19 : vals 19 = _ := f19
    replace f20 : vals 20 = _ := f20
    simp only [List.getD_cons_zero, List.getD_cons_succ, canonP, f19, f20]
    clear f19 f20
    rw [if_pos (by rfl)]
    simp only [Oper.gives]
    go_simp
    exact ⟨is_mk _ _, Touch.refl _ _⟩
  case o22 =>
    intro vals wq hRq hpq
    simp only [factsP, List.getD_cons_zero, List.getD_cons_succ] at hpq
    have f19 := hpq.1
    replace hpq := hpq.2
    have f21 := hpq.1
    replace hpq := hpq.2
    clear hpq
    replace f19 : vals 19 = _ := f19
    replace f21 : vals 21 = _ := f21
    simp only [List.getD_cons_zero, List.getD_cons_succ, canonP, f19, f21]
    clear f19 f21
    rw [if_pos (by rfl)]
    simp only [Oper.gives]
    go_simp
    exact ⟨is_mk _ _, Touch.refl _ _⟩
  case o23 =>
    intro vals wq hRq hpq
    simp only [factsP, List.getD_cons_zero, List.getD_cons_succ] at hpq
    have f19 := hpq.1
    replace hpq := hpq.2
    have f22 := hpq.1
    replace hpq := hpq.2
    clear hpq
    replace f19 : vals 19 = _ := f19
    replace f22 : vals 22 = _ := f22
    simp only [List.getD_cons_zero, List.getD_cons_succ, canonP, f19, f22]
    clear f19 f22
    rw [if_pos (by rfl)]
    have hcc : wq.cell? ⟨g, 517, none⟩ = some (.int .i64 5) := (Touch.cell ((Touch.drew [] W1).trans hRq (by simp)) (a := ⟨g, 517, none⟩) k3.out.1 (by simp)).trans k3.out.2
    simp only [Oper.gives]
    go_simp
    exact ⟨is_mk _ _, Touch.refl _ _⟩
  case o24 =>
    intro vals wq hRq hpq
    simp only [factsP, List.getD_cons_zero, List.getD_cons_succ] at hpq
    have f19 := hpq.1
    replace hpq := hpq.2
    have f23 := hpq.1
    replace hpq := hpq.2
    clear hpq
    replace f19 : vals 19 = _ := f19
    replace f23 : vals 23 = _ := f23
    simp only [List.getD_cons_zero, List.getD_cons_succ, canonP, f19, f23]
    clear f19 f23
    rw [if_pos (by rfl)]
    simp only [Oper.gives]
    go_simp
    exact ⟨is_mk _ _, Touch.refl _ _⟩
  case o25 =>
    intro vals wq hRq hpq
    simp only [factsP, List.getD_cons_zero, List.getD_cons_succ] at hpq
    have f19 := hpq.1
    replace hpq := hpq.2
    have f24 := hpq.1
    replace hpq := hpq.2
    clear hpq
    replace f19 : vals 19 = _ := f19
    replace f24 : vals 24 = _ := f24
    simp only [List.getD_cons_zero, List.getD_cons_succ, canonP, f19, f24]
    clear f19 f24
    rw [if_pos (by rfl)]
    simp only [Oper.gives]
    go_simp
    exact ⟨is_mk _ _, Touch.refl _ _⟩
  case o26 =>
    intro vals wq hRq hpq
    simp only [factsP, List.getD_cons_zero, List.getD_cons_succ] at hpq
    have f19 := hpq.1
    replace hpq := hpq.2
    have f25 := hpq.1
    replace hpq := hpq.2
    clear hpq
    replace f19 : vals 19 = _ := f19
    replace f25 : vals 25 = _ := f25
    simp only [List.getD_cons_zero, List.getD_cons_succ, canonP, f19, f25]
    clear f19 f25
    rw [if_pos (by rfl)]
    simp only [Oper.gives]
    go_simp
    exact ⟨is_mk _ _, Touch.refl _ _⟩
  case o27 =>
    intro vals wq hRq hpq
    simp only [factsP, List.getD_cons_zero, List.getD_cons_succ] at hpq
    have f26 := hpq.1
    replace hpq := hpq.2
    clear hpq
    replace f26 : vals 26 = _ := f26
    simp only [List.getD_cons_zero, List.getD_cons_succ, canonP, f26]
    clear f26
    rw [if_pos (by rfl)]
    simp only [Oper.gives]
    go_simp
    exact ⟨is_mk _ _, Touch.refl _ _⟩
  case o28 =>
    intro vals wq hRq hpq
    simp only [factsP, List.getD_cons_zero, List.getD_cons_succ] at hpq
    have f26 := hpq.1
    replace hpq := hpq.2
    have f27 := hpq.1
    replace hpq := hpq.2
    clear hpq
    replace f26 : vals 26 = _ := f26
    replace f27 : vals 27 = _ := f27
    simp only [List.getD_cons_zero, List.getD_cons_succ, canonP, f26, f27]
    clear f26 f27
    rw [if_pos (by rfl)]
    simp only [Oper.gives]
    go_simp
    exact ⟨is_mk _ _, Touch.refl _ _⟩
  case o29 =>
    intro vals wq hRq hpq
    simp only [factsP, List.getD_cons_zero, List.getD_cons_succ] at hpq
    have f26 := hpq.1
    replace hpq := hpq.2
    have f28 := hpq.1
    replace hpq := hpq.2
    clear hpq
    replace f26 : vals 26 = _ := f26
    replace f28 : vals 28 = _ := f28
    simp only [List.getD_cons_zero, List.getD_cons_succ, canonP, f26, f28]
    clear f26 f28
    rw [if_pos (by rfl)]
    simp only [Oper.gives]
    go_simp
    exact ⟨is_mk _ _, Touch.refl _ _⟩
  case o30 =>
    intro vals wq hRq hpq
    simp only [factsP, List.getD_cons_zero, List.getD_cons_succ] at hpq
    have f26 := hpq.1
    replace hpq := hpq.2
    have f29 := hpq.1
    replace hpq := hpq.2
    clear hpq
    replace f26 : vals 26 = _ := f26
    replace f29 : vals 29 = _ := f29
    simp only [List.getD_cons_zero, List.getD_cons_succ, canonP, f26, f29]
    clear f26 f29
    rw [if_pos (by rfl)]
    have hra : wq.rangeAt g 776 bz := range_touch k4.out.2 ((Touch.drew [] W1).trans hRq (by simp)) k4.out.1 (by simp)
    refine gives_load_mid 34 _ rfl g 776 rfl bz _ hra Tryd.underlying34 rfl HSL.out ?_
    rw [HBZ.out]
    exact ⟨is_mk _ _, Touch.refl _ _⟩
  case o31 =>
    intro vals wq hRq hpq
    simp only [factsP, List.getD_cons_zero, List.getD_cons_succ] at hpq
    have f26 := hpq.1
    replace hpq := hpq.2
    clear hpq
    replace f26 : vals 26 = _ := f26
    simp only [List.getD_cons_zero, List.getD_cons_succ, canonP, f26]
    clear f26
    rw [if_pos (by rfl)]
    simp only [Oper.gives]
    go_simp
    exact (HF.out wq).mono fun e w' ⟨he, hg⟩ => ⟨_, he, is_mk _ _, Touch.of_below hg⟩
  case o32 =>
    intro vals wq hRq hpq
    simp only [factsP, List.getD_cons_zero, List.getD_cons_succ] at hpq
    have f26 := hpq.1
    replace hpq := hpq.2
    have f30 := hpq.1
    replace hpq := hpq.2
    have f31 := hpq.1
    replace hpq := hpq.2
    clear hpq
    replace f26 : vals 26 = _ := f26
    replace f30 : vals 30 = _ := f30
    replace f31 : vals 31 = _ := f31
    simp only [List.getD_cons_zero, List.getD_cons_succ, canonP, f26, f30, f31]
    clear f26 f30 f31
    rw [if_pos (by rfl)]
    exact gives_binOp .eql 34 _ _ _ rfl _ _ rfl rfl (hq2 _ _ wq) (hq1 wq) ⟨is_mk _ _, Touch.refl _ _⟩
  case o33 =>
    intro vals wq hRq hpq
    simp only [factsP, List.getD_cons_zero, List.getD_cons_succ] at hpq
    have f26 := hpq.1
    replace hpq := hpq.2
    have f32 := hpq.1
    replace hpq := hpq.2
    clear hpq
    replace f26 : vals 26 = _ := f26
    replace f32 : vals 32 = _ := f32
    simp only [List.getD_cons_zero, List.getD_cons_succ, canonP, f26, f32]
    clear f26 f32
    rw [if_pos (by rfl)]
    simp only [Oper.gives]
    go_simp
    exact ⟨is_mk _ _, Touch.refl _ _⟩
  case o34 =>
    intro vals wq hRq hpq
    simp only [factsP, List.getD_cons_zero, List.getD_cons_succ] at hpq
    have f31 := hpq.1
    replace hpq := hpq.2
    have f33 := hpq.1
    replace hpq := hpq.2
    clear hpq
    replace f31 : vals 31 = _ := f31
    replace f33 : vals 33 = _ := f33
    simp only [List.getD_cons_zero, List.getD_cons_succ, canonP, f31, f33]
    clear f31 f33
    rw [if_pos (by rfl)]
    simp only [Oper.gives]
    go_simp
    exact ⟨is_mk _ _, Touch.refl _ _⟩
  case o35 =>
    intro vals wq hRq hpq
    simp only [factsP, List.getD_cons_zero, List.getD_cons_succ] at hpq
    have f34 := hpq.1
    replace hpq := hpq.2
    clear hpq
    replace f34 : vals 34 = _ := f34
    simp only [List.getD_cons_zero, List.getD_cons_succ, canonP, f34]
    clear f34
    rw [if_pos (by rfl)]
    simp only [Oper.gives]
    go_simp
    exact ⟨is_mk _ _, Touch.refl _ _⟩
  case o36 =>
    intro vals wq hRq hpq
    simp only [factsP, List.getD_cons_zero, List.getD_cons_succ] at hpq
    have f34 := hpq.1
    replace hpq := hpq.2
    have f35 := hpq.1
    replace hpq := hpq.2
    clear hpq
    replace f34 : vals 34 = _ := f34
    replace f35 : vals 35 = _ := f35
    simp only [List.getD_cons_zero, List.getD_cons_succ, canonP, f34, f35]
    clear f34 f35
    rw [if_pos (by rfl)]
    simp only [Oper.gives]
    go_simp
    exact ⟨is_mk _ _, Touch.refl _ _⟩
  case o37 =>
    intro vals wq hRq hpq
    simp only [factsP, List.getD_cons_zero, List.getD_cons_succ] at hpq
    have f34 := hpq.1
    replace hpq := hpq.2
    have f36 := hpq.1
    replace hpq := hpq.2
    clear hpq
    replace f34 : vals 34 = _ := f34
    replace f36 : vals 36 = _ := f36
    simp only [List.getD_cons_zero, List.getD_cons_succ, canonP, f34, f36]
    clear f34 f36
    rw [if_pos (by rfl)]
    simp only [Oper.gives]
    go_simp
    exact ⟨is_mk _ _, Touch.refl _ _⟩
  case o38 =>
    intro vals wq hRq hpq
    simp only [factsP, List.getD_cons_zero, List.getD_cons_succ] at hpq
    have f34 := hpq.1
    replace hpq := hpq.2
    have f37 := hpq.1
    replace hpq := hpq.2
    clear hpq
    replace f34 : vals 34 = _ := f34
    replace f37 : vals 37 = _ := f37
    simp only [List.getD_cons_zero, List.getD_cons_succ, canonP, f34, f37]
    clear f34 f37
    rw [if_pos (by rfl)]
    have hcc : wq.cell? ⟨g, 1032, none⟩ = some (.int .u8 3) := (Touch.cell ((Touch.drew [] W1).trans hRq (by simp)) (a := ⟨g, 1032, none⟩) k5.out.1 (by simp)).trans k5.out.2
    simp only [Oper.gives]
    go_simp
    exact ⟨is_mk _ _, Touch.refl _ _⟩
  case o39 =>
    intro vals wq hRq hpq
    simp only [factsP, List.getD_cons_zero, List.getD_cons_succ] at hpq
    have f34 := hpq.1
    replace hpq := hpq.2
    have f38 := hpq.1
    replace hpq := hpq.2
    clear hpq
    replace f34 : vals 34 = _ := f34
    replace f38 : vals 38 = _ := f38
    simp only [List.getD_cons_zero, List.getD_cons_succ, canonP, f34, f38]
    clear f34 f38
    rw [if_pos (by rfl)]
    simp only [Oper.gives]
    go_simp
    exact ⟨is_mk _ _, Touch.refl _ _⟩
  case o40 =>
    intro vals wq hRq hpq
    simp only [factsP, List.getD_cons_zero, List.getD_cons_succ] at hpq
    have f34 := hpq.1
    replace hpq := hpq.2
    have f39 := hpq.1
    replace hpq := hpq.2
    clear hpq
    replace f34 : vals 34 = _ := f34
    replace f39 : vals 39 = _ := f39
    simp only [List.getD_cons_zero, List.getD_cons_succ, canonP, f34, f39]
    clear f34 f39
    rw [if_pos (by rfl)]
    simp only [Oper.gives]
    go_simp
    exact ⟨is_mk _ _, Touch.refl _ _⟩
  case o41 =>
    intro vals wq hRq hpq
    simp only [factsP, List.getD_cons_zero, List.getD_cons_succ] at hpq
    have f34 := hpq.1
    replace hpq := hpq.2
    have f40 := hpq.1
    replace hpq := hpq.2
    clear hpq
    replace f34 : vals 34 = _ := f34
    replace f40 : vals 40 = _ := f40
    simp only [List.getD_cons_zero, List.getD_cons_succ, canonP, f34, f40]
    clear f34 f40
    rw [if_pos (by rfl)]
    simp only [Oper.gives]
    go_simp
    exact ⟨is_mk _ _, Touch.refl _ _⟩
  case o42 =>
    intro vals wq hRq hpq
    simp only [factsP, List.getD_cons_zero, List.getD_cons_succ] at hpq
    have f41 := hpq.1
    replace hpq := hpq.2
    clear hpq
    replace f41 : vals 41 = _ := f41
    simp only [List.getD_cons_zero, List.getD_cons_succ, canonP, f41]
    clear f41
    rw [if_pos (by rfl)]
    simp only [Oper.gives]
    go_simp
    exact ⟨is_mk _ _, Touch.refl _ _⟩
  case o43 =>
    intro vals wq hRq hpq
    simp only [factsP, List.getD_cons_zero, List.getD_cons_succ] at hpq
    have f41 := hpq.1
    replace hpq := hpq.2
    have f42 := hpq.1
    replace hpq := hpq.2
    clear hpq
    replace f41 : vals 41 = _ := f41
    replace f42 : vals 42 = _ := f42
    simp only [List.getD_cons_zero, List.getD_cons_succ, canonP, f41, f42]
    clear f41 f42
    rw [if_pos (by rfl)]
    simp only [Oper.gives]
    go_simp
    exact ⟨is_mk _ _, Touch.refl _ _⟩
  case o44 =>
    intro vals wq hRq hpq
    simp only [factsP, List.getD_cons_zero, List.getD_cons_succ] at hpq
    have f41 := hpq.1
    replace hpq := hpq.2
    have f43 := hpq.1
    replace hpq := hpq.2
    clear hpq
    replace f41 : vals 41 = _ := f41
    replace f43 : vals 43 = _ := f43
    simp only [List.getD_cons_zero, List.getD_cons_succ, canonP, f41, f43]
    clear f41 f43
    rw [if_pos (by rfl)]
    simp only [Oper.gives]
    go_simp
    exact ⟨is_mk _ _, Touch.refl _ _⟩
  case o45 =>
    intro vals wq hRq hpq
    simp only [factsP, List.getD_cons_zero, List.getD_cons_succ] at hpq
    have f41 := hpq.1
    replace hpq := hpq.2
    have f44 := hpq.1
    replace hpq := hpq.2
    clear hpq
    replace f41 : vals 41 = _ := f41
    replace f44 : vals 44 = _ := f44
    simp only [List.getD_cons_zero, List.getD_cons_succ, canonP, f41, f44]
    clear f41 f44
    rw [if_pos (by rfl)]
    have hcc : wq.cell? ⟨g, 1291, none⟩ = some (.int .i64 7) := (Touch.cell ((Touch.drew [] W1).trans hRq (by simp)) (a := ⟨g, 1291, none⟩) k6.out.1 (by simp)).trans k6.out.2
    simp only [Oper.gives]
    go_simp
    exact ⟨is_mk _ _, Touch.refl _ _⟩
  case o46 =>
    intro vals wq hRq hpq
    simp only [factsP, List.getD_cons_zero, List.getD_cons_succ] at hpq
    have f41 := hpq.1
    replace hpq := hpq.2
    have f45 := hpq.1
    replace hpq := hpq.2
    clear hpq
    replace f41 : vals 41 = _ := f41
    replace f45 : vals 45 = _ := f45
    simp only [List.getD_cons_zero, List.getD_cons_succ, canonP, f41, f45]
    clear f41 f45
    rw [if_pos (by rfl)]
    simp only [Oper.gives]
    go_simp
    exact ⟨is_mk _ _, Touch.refl _ _⟩
  case o47 =>
    intro vals wq hRq hpq
    simp only [factsP, List.getD_cons_zero, List.getD_cons_succ] at hpq
    have f41 := hpq.1
    replace hpq := hpq.2
    have f46 := hpq.1
    replace hpq := hpq.2
    clear hpq
    replace f41 : vals 41 = _ := f41
    replace f46 : vals 46 = _ := f46
    simp only [List.getD_cons_zero, List.getD_cons_succ, canonP, f41, f46]
    clear f41 f46
    rw [if_pos (by rfl)]
    simp only [Oper.gives]
    go_simp
    exact ⟨is_mk _ _, Touch.refl _ _⟩
  case o48 =>
    intro vals wq hRq hpq
    simp only [factsP, List.getD_cons_zero, List.getD_cons_succ] at hpq
    have f41 := hpq.1
    replace hpq := hpq.2
    have f47 := hpq.1
    replace hpq := hpq.2
    clear hpq
    replace f41 : vals 41 = _ := f41
    replace f47 : vals 47 = _ := f47
    simp only [List.getD_cons_zero, List.getD_cons_succ, canonP, f41, f47]
    clear f41 f47
    rw [if_pos (by rfl)]
    simp only [Oper.gives]
    go_simp
    exact ⟨is_mk _ _, Touch.refl _ _⟩
  case o49 =>
    intro vals wq hRq hpq
    simp only [factsP, List.getD_cons_zero, List.getD_cons_succ] at hpq
    have f48 := hpq.1
    replace hpq := hpq.2
    clear hpq
    replace f48 : vals 48 = _ := f48
    simp only [List.getD_cons_zero, List.getD_cons_succ, canonP, f48]
    clear f48
    rw [if_pos (by rfl)]
    simp only [Oper.gives]
    go_simp
    exact ⟨is_mk _ _, Touch.refl _ _⟩
  case o50 =>
    intro vals wq hRq hpq
    simp only [factsP, List.getD_cons_zero, List.getD_cons_succ] at hpq
    have f48 := hpq.1
    replace hpq := hpq.2
    have f49 := hpq.1
    replace hpq := hpq.2
    clear hpq
    replace f48 : vals 48 = _ := f48
    replace f49 : vals 49 = _ := f49
    simp only [List.getD_cons_zero, List.getD_cons_succ, canonP, f48, f49]
    clear f48 f49
    rw [if_pos (by rfl)]
    simp only [Oper.gives]
    go_simp
    exact ⟨is_mk _ _, Touch.refl _ _⟩
  case o51 =>
    intro vals wq hRq hpq
    simp only [factsP, List.getD_cons_zero, List.getD_cons_succ] at hpq
    have f48 := hpq.1
    replace hpq := hpq.2
    have f50 := hpq.1
    replace hpq := hpq.2
    clear hpq
    replace f48 : vals 48 = _ := f48
    replace f50 : vals 50 = _ := f50
    simp only [List.getD_cons_zero, List.getD_cons_succ, canonP, f48, f50]
    clear f48 f50
    rw [if_pos (by rfl)]
    simp only [Oper.gives]
    go_simp
    exact ⟨is_mk _ _, Touch.refl _ _⟩
  case o52 =>
    intro vals wq hRq hpq
    simp only [factsP, List.getD_cons_zero, List.getD_cons_succ] at hpq
    have f48 := hpq.1
    replace hpq := hpq.2
    have f51 := hpq.1
    replace hpq := hpq.2
    clear hpq
    replace f48 : vals 48 = _ := f48
    replace f51 : vals 51 = _ := f51
    simp only [List.getD_cons_zero, List.getD_cons_succ, canonP, f48, f51]
    clear f48 f51
    rw [if_pos (by rfl)]
    have hcc : wq.cell? ⟨g, 1548, none⟩ = some (.int .u8 3) := (Touch.cell ((Touch.drew [] W1).trans hRq (by simp)) (a := ⟨g, 1548, none⟩) k7.out.1 (by simp)).trans k7.out.2
    simp only [Oper.gives]
    go_simp
    exact ⟨is_mk _ _, Touch.refl _ _⟩
  case o53 =>
    intro vals wq hRq hpq
    simp only [factsP, List.getD_cons_zero, List.getD_cons_succ] at hpq
    have f48 := hpq.1
    replace hpq := hpq.2
    have f52 := hpq.1
    replace hpq := hpq.2
    clear hpq
    replace f48 : vals 48 = _ := f48
    replace f52 : vals 52 = _ := f52
    simp only [List.getD_cons_zero, List.getD_cons_succ, canonP, f48, f52]
    clear f48 f52
    rw [if_pos (by rfl)]
    simp only [Oper.gives]
    go_simp
    exact ⟨is_mk _ _, Touch.refl _ _⟩
  case o54 =>
    intro vals wq hRq hpq
    simp only [factsP, List.getD_cons_zero, List.getD_cons_succ] at hpq
    have f48 := hpq.1
    replace hpq := hpq.2
    have f53 := hpq.1
    replace hpq := hpq.2
    clear hpq
    replace f48 : vals 48 = _ := f48
    replace f53 : vals 53 = _ := f53
    simp only [List.getD_cons_zero, List.getD_cons_succ, canonP, f48, f53]
    clear f48 f53
    rw [if_pos (by rfl)]
    simp only [Oper.gives]
    go_simp
    exact ⟨is_mk _ _, Touch.refl _ _⟩
  case o55 =>
    intro vals wq hRq hpq
    simp only [factsP, List.getD_cons_zero, List.getD_cons_succ] at hpq
    have f0 := hpq.1
    replace hpq := hpq.2
    have f1 := hpq.1
    replace hpq := hpq.2
    have f2 := hpq.1
    replace hpq := hpq.2
    have f3 := hpq.1
    replace hpq := hpq.2
    have f4 := hpq.1
    replace hpq := hpq.2
    have f5 := hpq.1
    replace hpq := hpq.2
    have f6 := hpq.1
    replace hpq := hpq.2
    have f7 := hpq.1
    replace hpq := hpq.2
    have f8 := hpq.1
    replace hpq := hpq.2
    have f9 := hpq.1
    replace hpq := hpq.2
    have f10 := hpq.1
    replace hpq := hpq.2
    have f11 := hpq.1
    replace hpq := hpq.2
    have f12 := hpq.1
    replace hpq := hpq.2
    have f13 := hpq.1
    replace hpq := hpq.2
    have f14 := hpq.1
    replace hpq := hpq.2
    have f15 := hpq.1
    replace hpq := hpq.2
    have f16 := hpq.1
    replace hpq := hpq.2
    have f17 := hpq.1
    replace hpq := hpq.2
    have f18 := hpq.1
    replace hpq := hpq.2
    have f19 := hpq.1
    replace hpq := hpq.2
    have f20 := hpq.1
    replace hpq := hpq.2
    have f21 := hpq.1
    replace hpq := hpq.2
    have f22 := hpq.1
    replace hpq := hpq.2
    have f23 := hpq.1
    replace hpq := hpq.2
    have f24 := hpq.1
    replace hpq := hpq.2
    have f25 := hpq.1
    replace hpq := hpq.2
    have f26 := hpq.1
    replace hpq := hpq.2
    have f27 := hpq.1
    replace hpq := hpq.2
    have f28 := hpq.1
    replace hpq := hpq.2
    have f29 := hpq.1
    replace hpq := hpq.2
    have f30 := hpq.1
    replace hpq := hpq.2
    have f31 := hpq.1
    replace hpq := hpq.2
    have f32 := hpq.1
    replace hpq := hpq.2
    have f33 := hpq.1
    replace hpq := hpq.2
    have f34 := hpq.1
    replace hpq := hpq.2
    have f35 := hpq.1
    replace hpq := hpq.2
    have f36 := hpq.1
    replace hpq := hpq.2
    have f37 := hpq.1
    replace hpq := hpq.2
    have f38 := hpq.1
    replace hpq := hpq.2
    have f39 := hpq.1
    replace hpq := hpq.2
    have f40 := hpq.1
    replace hpq := hpq.2
    have f41 := hpq.1
    replace hpq := hpq.2
    have f42 := hpq.1
    replace hpq := hpq.2
    have f43 := hpq.1
    replace hpq := hpq.2
    have f44 := hpq.1
    replace hpq := hpq.2
    have f45 := hpq.1
    replace hpq := hpq.2
    have f46 := hpq.1
    replace hpq := hpq.2
    have f47 := hpq.1
    replace hpq := hpq.2
    have f48 := hpq.1
    replace hpq := hpq.2
    have f49 := hpq.1
    replace hpq := hpq.2
    have f50 := hpq.1
    replace hpq := hpq.2
    have f51 := hpq.1
    replace hpq := hpq.2
    have f52 := hpq.1
    replace hpq := hpq.2
    have f53 := hpq.1
    replace hpq := hpq.2
    have f54 := hpq.1
    replace hpq := hpq.2
    clear hpq
    replace f0 : vals 0 = _ := f0
    replace f1 : vals 1 = _ := f1
    replace f2 : vals 2 = _ := f2
    replace f3 : vals 3 = _ := f3
    replace f4 : vals 4 = _ := f4
    replace f5 : vals 5 = _ := f5
    replace f6 : vals 6 = _ := f6
    replace f7 : vals 7 = _ := f7
    replace f8 : vals 8 = _ := f8
    replace f9 : vals 9 = _ := f9
    replace f10 : vals 10 = _ := f10
    replace f11 : vals 11 = _ := f11
    replace f12 : vals 12 = _ := f12
    replace f13 : vals 13 = _ := f13
    replace f14 : vals 14 = _ := f14
    replace f15 : vals 15 = _ := f15
    replace f16 : vals 16 = _ := f16
    replace f17 : vals 17 = _ := f17
    replace f18 : vals 18 = _ := f18
    replace f19 : vals 19 = _ := f19
    replace f20 : vals 20 = _ := f20
    replace f21 : vals 21 = _ := f21
    replace f22 : vals 22 = _ := f22
    replace f23 : vals 23 = _ := f23
    replace f24 : vals 24 = _ := f24
    replace f25 : vals 25 = _ := f25
    replace f26 : vals 26 = _ := f26
    replace f27 : vals 27 = _ := f27
    replace f28 : vals 28 = _ := f28
    replace f29 : vals 29 = _ := f29
    replace f30 : vals 30 = _ := f30
    replace f31 : vals 31 = _ := f31
    replace f32 : vals 32 = _ := f32
    replace f33 : vals 33 = _ := f33
    replace f34 : vals 34 = _ := f34
    replace f35 : vals 35 = _ := f35
    replace f36 : vals 36 = _ := f36
    replace f37 : vals 37 = _ := f37
    replace f38 : vals 38 = _ := f38
    replace f39 : vals 39 = _ := f39
    replace f40 : vals 40 = _ := f40
    replace f41 : vals 41 = _ := f41
    replace f42 : vals 42 = _ := f42
    replace f43 : vals 43 = _ := f43
    replace f44 : vals 44 = _ := f44
    replace f45 : vals 45 = _ := f45
    replace f46 : vals 46 = _ := f46
    replace f47 : vals 47 = _ := f47
    replace f48 : vals 48 = _ := f48
    replace f49 : vals 49 = _ := f49
    replace f50 : vals 50 = _ := f50
    replace f51 : vals 51 = _ := f51
    replace f52 : vals 52 = _ := f52
    replace f53 : vals 53 = _ := f53
    replace f54 : vals 54 = _ := f54
    simp only [List.getD_cons_zero, List.getD_cons_succ, canonP, f0, f1, f2, f3, f4, f5, f6, f7, f8, f9, f10, f11, f12, f13, f14, f15, f16, f17, f18, f19, f20, f21, f22, f23, f24, f25, f26, f27, f28, f29, f30, f31, f32, f33, f34, f35, f36, f37, f38, f39, f40, f41, f42, f43, f44, f45, f46, f47, f48, f49, f50, f51, f52, f53, f54]
    clear f0 f1 f2 f3 f4 f5 f6 f7 f8 f9 f10 f11 f12 f13 f14 f15 f16 f17 f18 f19 f20 f21 f22 f23 f24 f25 f26 f27 f28 f29 f30 f31 f32 f33 f34 f35 f36 f37 f38 f39 f40 f41 f42 f43 f44 f45 f46 f47 f48 f49 f50 f51 f52 f53 f54
    rw [if_pos (by rfl)]
    simp only [Oper.gives]
    go_simp
    exact ⟨is_mk _ _, Touch.refl _ _⟩
  intro vals wz hRwz hfwz
  simp only [AllFacts] at hfwz
  have g0 := hfwz.1
  replace hfwz := hfwz.2
  have g1 := hfwz.1
  replace hfwz := hfwz.2
  have g2 := hfwz.1
  replace hfwz := hfwz.2
  have g3 := hfwz.1
  replace hfwz := hfwz.2
  have g4 := hfwz.1
  replace hfwz := hfwz.2
  have g5 := hfwz.1
  replace hfwz := hfwz.2
  have g6 := hfwz.1
  replace hfwz := hfwz.2
  have g7 := hfwz.1
  replace hfwz := hfwz.2
  have g8 := hfwz.1
  replace hfwz := hfwz.2
  have g9 := hfwz.1
  replace hfwz := hfwz.2
  have g10 := hfwz.1
  replace hfwz := hfwz.2
  have g11 := hfwz.1
  replace hfwz := hfwz.2
  have g12 := hfwz.1
  replace hfwz := hfwz.2
  have g13 := hfwz.1
  replace hfwz := hfwz.2
  have g14 := hfwz.1
  replace hfwz := hfwz.2
  have g15 := hfwz.1
  replace hfwz := hfwz.2
  have g16 := hfwz.1
  replace hfwz := hfwz.2
  have g17 := hfwz.1
  replace hfwz := hfwz.2
  have g18 := hfwz.1
  replace hfwz := hfwz.2
  have g19 := hfwz.1
  replace hfwz := hfwz.2
  have g20 := hfwz.1
  replace hfwz := hfwz.2
  have g21 := hfwz.1
  replace hfwz := hfwz.2
  have g22 := hfwz.1
  replace hfwz := hfwz.2
  have g23 := hfwz.1
  replace hfwz := hfwz.2
  have g24 := hfwz.1
  replace hfwz := hfwz.2
  have g25 := hfwz.1
  replace hfwz := hfwz.2
  have g26 := hfwz.1
  replace hfwz := hfwz.2
  have g27 := hfwz.1
  replace hfwz := hfwz.2
  have g28 := hfwz.1
  replace hfwz := hfwz.2
  have g29 := hfwz.1
  replace hfwz := hfwz.2
  have g30 := hfwz.1
  replace hfwz := hfwz.2
  have g31 := hfwz.1
  replace hfwz := hfwz.2
  have g32 := hfwz.1
  replace hfwz := hfwz.2
  have g33 := hfwz.1
  replace hfwz := hfwz.2
  have g34 := hfwz.1
  replace hfwz := hfwz.2
  have g35 := hfwz.1
  replace hfwz := hfwz.2
  have g36 := hfwz.1
  replace hfwz := hfwz.2
  have g37 := hfwz.1
  replace hfwz := hfwz.2
  have g38 := hfwz.1
  replace hfwz := hfwz.2
  have g39 := hfwz.1
  replace hfwz := hfwz.2
  have g40 := hfwz.1
  replace hfwz := hfwz.2
  have g41 := hfwz.1
  replace hfwz := hfwz.2
  have g42 := hfwz.1
  replace hfwz := hfwz.2
  have g43 := hfwz.1
  replace hfwz := hfwz.2
  have g44 := hfwz.1
  replace hfwz := hfwz.2
  have g45 := hfwz.1
  replace hfwz := hfwz.2
  have g46 := hfwz.1
  replace hfwz := hfwz.2
  have g47 := hfwz.1
  replace hfwz := hfwz.2
  have g48 := hfwz.1
  replace hfwz := hfwz.2
  have g49 := hfwz.1
  replace hfwz := hfwz.2
  have g50 := hfwz.1
  replace hfwz := hfwz.2
  have g51 := hfwz.1
  replace hfwz := hfwz.2
  have g52 := hfwz.1
  replace hfwz := hfwz.2
  have g53 := hfwz.1
  replace hfwz := hfwz.2
  have g54 := hfwz.1
  replace hfwz := hfwz.2
  have g55 := hfwz.1
  replace hfwz := hfwz.2
  clear hfwz
  replace g0 : vals 0 = _ := g0
  replace g1 : vals 1 = _ := g1
  replace g2 : vals 2 = _ := g2
  replace g3 : vals 3 = _ := g3
  replace g4 : vals 4 = _ := g4
  replace g5 : vals 5 = _ := g5
  replace g6 : vals 6 = _ := g6
  replace g7 : vals 7 = _ := g7
  replace g8 : vals 8 = _ := g8
  replace g9 : vals 9 = _ := g9
  replace g10 : vals 10 = _ := g10
  replace g11 : vals 11 = _ := g11
  replace g12 : vals 12 = _ := g12
  replace g13 : vals 13 = _ := g13
  replace g14 : vals 14 = _ := g14
  replace g15 : vals 15 = _ := g15
  replace g16 : vals 16 = _ := g16
  replace g17 : vals 17 = _ := g17
  replace g18 : vals 18 = _ := g18
  replace g19 : vals 19 = _ := g19
  replace g20 : vals 20 = _ := g20
  replace g21 : vals 21 = _ := g21
  replace g22 : vals 22 = _ := g22
  replace g23 : vals 23 = _ := g23
  replace g24 : vals 24 = _ := g24
  replace g25 : vals 25 = _ := g25
  replace g26 : vals 26 = _ := g26
  replace g27 : vals 27 = _ := g27
  replace g28 : vals 28 = _ := g28
  replace g29 : vals 29 = _ := g29
  replace g30 : vals 30 = _ := g30
  replace g31 : vals 31 = _ := g31
  replace g32 : vals 32 = _ := g32
  replace g33 : vals 33 = _ := g33
  replace g34 : vals 34 = _ := g34
  replace g35 : vals 35 = _ := g35
  replace g36 : vals 36 = _ := g36
  replace g37 : vals 37 = _ := g37
  replace g38 : vals 38 = _ := g38
  replace g39 : vals 39 = _ := g39
  replace g40 : vals 40 = _ := g40
  replace g41 : vals 41 = _ := g41
  replace g42 : vals 42 = _ := g42
  replace g43 : vals 43 = _ := g43
  replace g44 : vals 44 = _ := g44
  replace g45 : vals 45 = _ := g45
  replace g46 : vals 46 = _ := g46
  replace g47 : vals 47 = _ := g47
  replace g48 : vals 48 = _ := g48
  replace g49 : vals 49 = _ := g49
  replace g50 : vals 50 = _ := g50
  replace g51 : vals 51 = _ := g51
  replace g52 : vals 52 = _ := g52
  replace g53 : vals 53 = _ := g53
  replace g54 : vals 54 = _ := g54
  replace g55 : vals 55 = _ := g55
  simp only [canonP, Act.put, List.setIfInBounds_toArray, List.set_cons_succ, List.set_cons_zero, g0, g1, g2, g3, g4, g5, g6, g7, g8, g9, g10, g11, g12, g13, g14, g15, g16, g17, g18, g19, g20, g21, g22, g23, g24, g25, g26, g27, g28, g29, g30, g31, g32, g33, g34, g35, g36, g37, g38, g39, g40, g41, g42, g43, g44, g45, g46, g47, g48, g49, g50, g51, g52, g53, g54, g55]
  clear g0 g1 g2 g3 g4 g5 g6 g7 g8 g9 g10 g11 g12 g13 g14 g15 g16 g17 g18 g19 g20 g21 g22 g23 g24 g25 g26 g27 g28 g29 g30 g31 g32 g33 g34 g35 g36 g37 g38 g39 g40 g41 g42 g43 g44 g45 g46 g47 g48 g49 g50 g51 g52 g53 g54 g55
  exact HK.out _ _ _ _ _ _ _ _ _ _ _ _ _ _ _ _ _ _ _ _ _ _ _ _ _ _ _ _ _ _ _ _ _ _ _ _ _ _ _ _ _ _ _ _ _ _ _ _ _ _ _ _ _ _ _ _ (((Touch.drew [] W1).trans hRwz (by simp)).below (Nat.le_refl _) (by simp))
#print axioms aw_reg5
end Go.Proofs.YtieknecbheeekaaDoor
