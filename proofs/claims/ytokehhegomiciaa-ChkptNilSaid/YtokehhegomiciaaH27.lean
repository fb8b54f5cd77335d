/- ChkptNil's region, over letters. -/
import Derived.Test.YtokehhegomiciaaH26
set_option linter.unusedVariables false
set_option linter.unusedSimpArgs false
namespace Go.Proofs.Ytokehhegomiciaa
open Go.RowKit Go.Maps

noncomputable def nil_reg9Code : Code := regById 9 (codesOf (Try.f7.body.getD .skip))
set_option maxRecDepth 100000 in
set_option maxHeartbeats 4000000 in
theorem nil_reg9 (AB HB GL oL i XB nx seq nc cc nr cr ps : Nat) (ac ar p : Option Addr) (b start count pst : Int) (Z SZ : Array Value) (W1 : World) (HI : Hid (i < 2)) (HPC : Hid (GL < W1.heap.size ∧ W1.cell? ⟨GL, oL + i, none⟩ = some (.pointer p))) (HA1 : Hid (AB < W1.heap.size ∧ W1.cell? ⟨AB, 1, none⟩ = some (.int .u32 (seq : Int)))) (HA2 : Hid (AB < W1.heap.size ∧ W1.cell? ⟨AB, 2, none⟩ = some (.slice ac nc cc))) (HA3 : Hid (AB < W1.heap.size ∧ W1.cell? ⟨AB, 3, none⟩ = some (.slice ar nr cr))) (HA4 : Hid (AB < W1.heap.size ∧ W1.cell? ⟨AB, 4, none⟩ = some (.int .i64 start))) (HA5 : Hid (AB < W1.heap.size ∧ W1.cell? ⟨AB, 5, none⟩ = some (.int .i64 count))) (HH0 : Hid (HB < W1.heap.size ∧ W1.cell? ⟨HB, 0, none⟩ = some (.int .u32 (ps : Int)))) (HH1 : Hid (HB < W1.heap.size ∧ W1.cell? ⟨HB, 1, none⟩ = some (.int .i64 pst))) (HXB : Hid (W1.heap[XB]? = some (.cells Z 33))) (HSA : Hid ((Try.prog.info? 33).map (·.size) = some Z.size)) (HBZ : Hid (Try.prog.built 33 [] = some Z)) (HBS : Hid (Try.prog.built 74 [] = some SZ)) (HNE : Hid (∀ w, (binOp .neq 33 (.agg Z) (.agg Z)).run Try.prog w = .ok (.bool false) w)) (HGB : Hid (∀ x y w, (eqGuard .neq 33 x y (.agg Z) (.agg Z)).run Try.prog w = .ok () w)) (HADD : Hid (∀ w, Grow W1 w → Calls Try.prog 12 #[.pointer p, .agg #[.int .u32 (seq : Int), .slice ac nc cc, .slice ar nr cr], .int .i64 start, .int .i64 count] w fun e w' => e = .returned (.int .i64 1) ∧ Grow w w')) (HDID : Hid (∀ w, Grow W1 w → Calls Try.prog 20 #[.pointer p, .agg #[.int .u32 (ps : Int), .int .i64 pst], .int .u32 (nx : Int)] w fun e w' => e = .returned (.int .i64 1) ∧ Grow w w')) (HIN : Hid (∀ w, Grow W1 w → Calls Try.prog 25 #[.pointer p, .int .i64 b] w fun e w' => e = .returned (.bool false) ∧ Grow w w')) (HLEN : Hid (∀ w, Grow W1 w → Calls Try.prog 11 #[.pointer p] w fun e w' => e = .returned (.int .i64 0) ∧ Grow w w')) (HLF : Hid (∀ w, Grow W1 w → Calls Try.prog 17 #[.pointer p] w fun e w' => e = .returned (.slice none 0 0) ∧ Grow w w')) (HNX : Hid (∀ w, Grow W1 w → Calls Try.prog 19 #[.pointer p, .agg #[.int .u32 (ps : Int), .int .i64 pst], .int .u32 (nx : Int)] w fun e w' => e = .returned (.agg SZ) ∧ Grow w w')) (HST : Hid (∀ w, Grow W1 w → Calls Try.prog 26 #[.agg SZ, .agg SZ] w fun e w' => e = .returned (.bool true) ∧ Grow w w'))
    (s0 s2 s5 s7 s8 s9 s14 s15 s16 s17 s18 s19 s20 s21 s22 s23 s24 s25 s26 s27 s28 s29 s30 s31 s32 s33 s34 s35 s36 s37 s38 s39 s40 s41 s42 s43 s44 s45 s46 s47 s48 s49 s50 s51 s52 s53 s54 s55 s56 s57 s58 s59 s60 s61 s62 s63 s64 s65 s66 s67 s68 s69 s70 s71 s72 s73 s74 s75 s76 s77 s78 s79 s80 s81 s82 s83 s84 s85 s86 s87 s88 s89 s90 s91 s92 s93 s94 s95 s96 s97 s98 s99 s100 s101 s102 s103 : Value) (Q : Exit → Act → World → Prop) (HK : Hid (∀ u36 u37 u38 u39 u40 u41 u42 u43 u44 u45 u46 u47 u48 u49 u50 u51 u52 u53 u54 u55 u56 u57 u58 u59 u60 u61 u62 u63 u64 u65 u66 u67 u68 u69 u70 u71 u72 u73 u74 u75 u76 u77 u78 u79 u80 u81 u82 u83 u84 u85 u86 u87 u88 u89 u90 u91 u92 u93 u94 u95 u96 u97 u98 u99 u100 u101 wz, Grow W1 wz → Q .normal ⟨(s0 :: .int .i64 b :: s2 :: .int .u32 (nx : Int) :: .pointer (some ⟨AB, 0, none⟩) :: s5 :: .pointer (some ⟨HB, 0, none⟩) :: s7 :: s8 :: s9 :: .slice (some ⟨GL, oL, none⟩) 2 2 :: .int .i64 (i : Int) :: .pointer (some ⟨XB, 0, none⟩) :: .bool false :: s14 :: s15 :: s16 :: s17 :: s18 :: s19 :: s20 :: s21 :: s22 :: s23 :: s24 :: s25 :: s26 :: s27 :: s28 :: s29 :: s30 :: s31 :: s32 :: s33 :: s34 :: s35 :: u36 :: u37 :: u38 :: u39 :: u40 :: u41 :: u42 :: u43 :: u44 :: u45 :: u46 :: u47 :: u48 :: u49 :: u50 :: u51 :: u52 :: u53 :: u54 :: u55 :: u56 :: u57 :: u58 :: u59 :: u60 :: u61 :: u62 :: u63 :: u64 :: u65 :: u66 :: u67 :: u68 :: u69 :: u70 :: u71 :: u72 :: u73 :: u74 :: u75 :: u76 :: u77 :: u78 :: u79 :: u80 :: u81 :: u82 :: u83 :: u84 :: u85 :: u86 :: u87 :: u88 :: u89 :: u90 :: u91 :: u92 :: u93 :: u94 :: u95 :: u96 :: u97 :: u98 :: u99 :: u100 :: u101 :: .bool false :: s103 :: []).toArray, []⟩ (wz))) : nil_reg9Code.wp Try.prog Q ⟨(s0 :: .int .i64 b :: s2 :: .int .u32 (nx : Int) :: .pointer (some ⟨AB, 0, none⟩) :: s5 :: .pointer (some ⟨HB, 0, none⟩) :: s7 :: s8 :: s9 :: .slice (some ⟨GL, oL, none⟩) 2 2 :: .int .i64 (i : Int) :: .pointer (some ⟨XB, 0, none⟩) :: .bool false :: s14 :: s15 :: s16 :: s17 :: s18 :: s19 :: s20 :: s21 :: s22 :: s23 :: s24 :: s25 :: s26 :: s27 :: s28 :: s29 :: s30 :: s31 :: s32 :: s33 :: s34 :: s35 :: s36 :: s37 :: s38 :: s39 :: s40 :: s41 :: s42 :: s43 :: s44 :: s45 :: s46 :: s47 :: s48 :: s49 :: s50 :: s51 :: s52 :: s53 :: s54 :: s55 :: s56 :: s57 :: s58 :: s59 :: s60 :: s61 :: s62 :: s63 :: s64 :: s65 :: s66 :: s67 :: s68 :: s69 :: s70 :: s71 :: s72 :: s73 :: s74 :: s75 :: s76 :: s77 :: s78 :: s79 :: s80 :: s81 :: s82 :: s83 :: s84 :: s85 :: s86 :: s87 :: s88 :: s89 :: s90 :: s91 :: s92 :: s93 :: s94 :: s95 :: s96 :: s97 :: s98 :: s99 :: s100 :: s101 :: s102 :: s103 :: []).toArray, []⟩ W1 := by
  conv => arg 2; whnf
  refine wp_region_facts (by kernel_rfl) [[], [], [(0, some 36), (1, some 37)], [(2, some 38)], [], [(4, some 40)], [], [(6, some 42)], [], [(8, some 44)], [(3, some 39), (5, some 41), (7, some 43), (9, some 45)], [(10, some 46)], [(10, some 46), (11, some 47)], [(12, some 48)], [(12, some 48)], [(12, some 48), (13, some 49), (14, some 50)], [(12, some 48), (15, some 51)], [(12, some 48)], [(12, some 48)], [(12, some 48), (16, some 52), (17, some 53), (18, some 54)], [(12, some 48), (19, some 55)], [(12, some 48), (20, some 56)], [(19, some 55), (21, some 57)], [(22, some 58)], [(22, some 58), (23, some 59)], [(22, some 58), (24, some 60)], [(25, some 61)], [(25, some 61)], [(25, some 61), (26, some 62), (27, some 63)], [(25, some 61), (28, some 64)], [(25, some 61)], [(25, some 61), (29, some 65), (30, some 66)], [(25, some 61), (31, some 67)], [(31, some 67), (32, some 68)], [(33, some 69)], [(33, some 69)], [(33, some 69), (34, some 70), (35, some 71)], [(33, some 69), (36, some 72)], [(33, some 69), (37, some 73)], [(38, some 74)], [(38, some 74)], [(38, some 74), (39, some 75), (40, some 76)], [(38, some 74), (41, some 77)], [(38, some 74), (42, some 78)], [(38, some 74), (43, some 79)], [(38, some 74), (44, some 80)], [(43, some 79), (45, some 81)], [(46, some 82)], [(46, some 82)], [(46, some 82), (47, some 83), (48, some 84)], [(46, some 82), (49, some 85)], [(46, some 82), (50, some 86)], [(46, some 82), (51, some 87)], [(46, some 82), (52, some 88)], [(46, some 82), (53, some 89)], [(51, some 87), (54, some 90)], [(55, some 91)], [(55, some 91)], [(55, some 91), (56, some 92), (57, some 93)], [(55, some 91), (58, some 94)], [(55, some 91)], [(55, some 91)], [(55, some 91), (59, some 95), (60, some 96), (61, some 97)], [(55, some 91)], [(55, some 91), (62, some 98), (63, some 99)], [(55, some 91), (64, some 100)], [(55, some 91), (65, some 101)]] [(0, some 36), (1, some 37), (2, some 38), (3, some 39), (4, some 40), (5, some 41), (6, some 42), (7, some 43), (8, some 44), (9, some 45), (10, some 46), (11, some 47), (12, some 48), (13, some 49), (14, some 50), (15, some 51), (16, some 52), (17, some 53), (18, some 54), (19, some 55), (20, some 56), (21, some 57), (22, some 58), (23, some 59), (24, some 60), (25, some 61), (26, some 62), (27, some 63), (28, some 64), (29, some 65), (30, some 66), (31, some 67), (32, some 68), (33, some 69), (34, some 70), (35, some 71), (36, some 72), (37, some 73), (38, some 74), (39, some 75), (40, some 76), (41, some 77), (42, some 78), (43, some 79), (44, some 80), (45, some 81), (46, some 82), (47, some 83), (48, some 84), (49, some 85), (50, some 86), (51, some 87), (52, some 88), (53, some 89), (54, some 90), (55, some 91), (56, some 92), (57, some 93), (58, some 94), (59, some 95), (60, some 96), (61, some 97), (62, some 98), (63, some 99), (64, some 100), (65, some 101), (66, some 102)] (by kernel_rfl) (by kernel_rfl) (by kernel_rfl) (Touch []) (Touch.refl []) (fun _ _ _ h h' => h.trans h' (fun i hi => .inl hi)) [Is (Value.slice (some ⟨GL, oL, none⟩) 2 2), Is (Value.int .i64 (i : Int)), Is (Value.pointer (some ⟨GL, oL + i, none⟩)), Is (Value.pointer p), Is (Value.pointer (some ⟨AB, 1, none⟩)), Is (Value.agg #[.int .u32 (seq : Int), .slice ac nc cc, .slice ar nr cr]), Is (Value.pointer (some ⟨AB, 4, none⟩)), Is (Value.int .i64 start), Is (Value.pointer (some ⟨AB, 5, none⟩)), Is (Value.int .i64 count), Is (Value.int .i64 1), Is (Value.bool false), Is (Value.bool false), Is (Value.slice (some ⟨GL, oL, none⟩) 2 2), Is (Value.int .i64 (i : Int)), Is (Value.pointer (some ⟨GL, oL + i, none⟩)), Is (Value.pointer p), Is (Value.agg #[.int .u32 (ps : Int), .int .i64 pst]), Is (Value.int .u32 (nx : Int)), Is (Value.int .i64 1), Is (Value.bool false), Is (Value.bool false), Is (Value.bool false), Is (Value.bool false), Is (Value.bool false), Is (Value.bool false), Is (Value.slice (some ⟨GL, oL, none⟩) 2 2), Is (Value.int .i64 (i : Int)), Is (Value.pointer (some ⟨GL, oL + i, none⟩)), Is (Value.pointer p), Is (Value.int .i64 b), Is (Value.bool false), Is (Value.bool false), Is (Value.bool false), Is (Value.agg Z), Is (Value.agg Z), Is (Value.bool false), Is (Value.bool false), Is (Value.bool false), Is (Value.slice (some ⟨GL, oL, none⟩) 2 2), Is (Value.int .i64 (i : Int)), Is (Value.pointer (some ⟨GL, oL + i, none⟩)), Is (Value.pointer p), Is (Value.int .i64 0), Is (Value.bool false), Is (Value.bool false), Is (Value.bool false), Is (Value.slice (some ⟨GL, oL, none⟩) 2 2), Is (Value.int .i64 (i : Int)), Is (Value.pointer (some ⟨GL, oL + i, none⟩)), Is (Value.pointer p), Is (Value.slice none 0 0), Is (Value.int .i64 0), Is (Value.bool false), Is (Value.bool false), Is (Value.bool false), Is (Value.slice (some ⟨GL, oL, none⟩) 2 2), Is (Value.int .i64 (i : Int)), Is (Value.pointer (some ⟨GL, oL + i, none⟩)), Is (Value.pointer p), Is (Value.agg #[.int .u32 (ps : Int), .int .i64 pst]), Is (Value.int .u32 (nx : Int)), Is (Value.agg SZ), Is (Value.agg SZ), Is (Value.bool true), Is (Value.bool false), Is (Value.bool false)] rfl ⟨is_stab _ _, is_stab _ _, is_stab _ _, is_stab _ _, is_stab _ _, is_stab _ _, is_stab _ _, is_stab _ _, is_stab _ _, is_stab _ _, is_stab _ _, is_stab _ _, is_stab _ _, is_stab _ _, is_stab _ _, is_stab _ _, is_stab _ _, is_stab _ _, is_stab _ _, is_stab _ _, is_stab _ _, is_stab _ _, is_stab _ _, is_stab _ _, is_stab _ _, is_stab _ _, is_stab _ _, is_stab _ _, is_stab _ _, is_stab _ _, is_stab _ _, is_stab _ _, is_stab _ _, is_stab _ _, is_stab _ _, is_stab _ _, is_stab _ _, is_stab _ _, is_stab _ _, is_stab _ _, is_stab _ _, is_stab _ _, is_stab _ _, is_stab _ _, is_stab _ _, is_stab _ _, is_stab _ _, is_stab _ _, is_stab _ _, is_stab _ _, is_stab _ _, is_stab _ _, is_stab _ _, is_stab _ _, is_stab _ _, is_stab _ _, is_stab _ _, is_stab _ _, is_stab _ _, is_stab _ _, is_stab _ _, is_stab _ _, is_stab _ _, is_stab _ _, is_stab _ _, is_stab _ _, is_stab _ _, trivial⟩ ⟨?o0, ?o1, ?o2, ?o3, ?o4, ?o5, ?o6, ?o7, ?o8, ?o9, ?o10, ?o11, ?o12, ?o13, ?o14, ?o15, ?o16, ?o17, ?o18, ?o19, ?o20, ?o21, ?o22, ?o23, ?o24, ?o25, ?o26, ?o27, ?o28, ?o29, ?o30, ?o31, ?o32, ?o33, ?o34, ?o35, ?o36, ?o37, ?o38, ?o39, ?o40, ?o41, ?o42, ?o43, ?o44, ?o45, ?o46, ?o47, ?o48, ?o49, ?o50, ?o51, ?o52, ?o53, ?o54, ?o55, ?o56, ?o57, ?o58, ?o59, ?o60, ?o61, ?o62, ?o63, ?o64, ?o65, ?o66, trivial⟩ ?_
  case o0 =>
    intro vals wq hRq hpq
    simp only [List.getD_cons_zero, List.getD_cons_succ, canonP]
    rw [if_pos (by rfl)]
    simp only [Oper.gives]
    go_simp
    exact ⟨is_mk _ _, Touch.refl _ _⟩
  case o1 =>
    intro vals wq hRq hpq
    simp only [List.getD_cons_zero, List.getD_cons_succ, canonP]
    rw [if_pos (by rfl)]
    simp only [Oper.gives]
    go_simp
    exact ⟨is_mk _ _, Touch.refl _ _⟩
  case o2 =>
    intro vals wq hRq hpq
    simp only [factsP, List.getD_cons_zero, List.getD_cons_succ] at hpq
    have f0 := hpq.1
    replace hpq := hpq.2
    have f1 := hpq.1
    replace hpq := hpq.2
    clear hpq
    replace f0 : vals 0 = _ := f0
    replace f1 : vals 1 = _ := f1
    simp only [List.getD_cons_zero, List.getD_cons_succ, canonP, f0, f1]
    clear f0 f1
    rw [if_pos (by rfl)]
    have b0 : (0 : Int) ≤ (i : Int) := by omega
    have hi := HI.out
    have b1 : (i : Int) < 2 := by omega
    simp only [Oper.gives]
    go_simp
    exact ⟨is_mk _ _, Touch.refl _ _⟩
  case o3 =>
    intro vals wq hRq hpq
    simp only [factsP, List.getD_cons_zero, List.getD_cons_succ] at hpq
    have f2 := hpq.1
    replace hpq := hpq.2
    clear hpq
    replace f2 : vals 2 = _ := f2
    simp only [List.getD_cons_zero, List.getD_cons_succ, canonP, f2]
    clear f2
    rw [if_pos (by rfl)]
    have hcc : wq.cell? ⟨GL, oL + i, none⟩ = some (.pointer p) := (Touch.cell ((Touch.drew [] W1).trans hRq (by simp)) (a := ⟨GL, oL + i, none⟩) HPC.out.1 (by simp)).trans HPC.out.2
    simp only [Oper.gives]
    go_simp
    exact ⟨is_mk _ _, Touch.refl _ _⟩
  case o4 =>
    intro vals wq hRq hpq
    simp only [List.getD_cons_zero, List.getD_cons_succ, canonP]
    rw [if_pos (by rfl)]
    simp only [Oper.gives]
    go_simp
    exact ⟨is_mk _ _, Touch.refl _ _⟩
  case o5 =>
    intro vals wq hRq hpq
    simp only [factsP, List.getD_cons_zero, List.getD_cons_succ] at hpq
    have f4 := hpq.1
    replace hpq := hpq.2
    clear hpq
    replace f4 : vals 4 = _ := f4
    simp only [List.getD_cons_zero, List.getD_cons_succ, canonP, f4]
    clear f4
    rw [if_pos (by rfl)]
    have q0 : wq.cell? ⟨AB, 1, none⟩ = some (.int .u32 (seq : Int)) := (Touch.cell ((Touch.drew [] W1).trans hRq (by simp)) (a := ⟨AB, 1, none⟩) HA1.out.1 (by simp)).trans HA1.out.2
    have q1 : wq.cell? ⟨AB, 2, none⟩ = some (.slice ac nc cc) := (Touch.cell ((Touch.drew [] W1).trans hRq (by simp)) (a := ⟨AB, 2, none⟩) HA2.out.1 (by simp)).trans HA2.out.2
    have q2 : wq.cell? ⟨AB, 3, none⟩ = some (.slice ar nr cr) := (Touch.cell ((Touch.drew [] W1).trans hRq (by simp)) (a := ⟨AB, 3, none⟩) HA3.out.1 (by simp)).trans HA3.out.2
    simp only [Oper.gives]
    go_simp
    exact ⟨is_mk _ _, Touch.refl _ _⟩
  case o6 =>
    intro vals wq hRq hpq
    simp only [List.getD_cons_zero, List.getD_cons_succ, canonP]
    rw [if_pos (by rfl)]
    simp only [Oper.gives]
    go_simp
    exact ⟨is_mk _ _, Touch.refl _ _⟩
  case o7 =>
    intro vals wq hRq hpq
    simp only [factsP, List.getD_cons_zero, List.getD_cons_succ] at hpq
    have f6 := hpq.1
    replace hpq := hpq.2
    clear hpq
    replace f6 : vals 6 = _ := f6
    simp only [List.getD_cons_zero, List.getD_cons_succ, canonP, f6]
    clear f6
    rw [if_pos (by rfl)]
    have hcc : wq.cell? ⟨AB, 4, none⟩ = some (.int .i64 start) := (Touch.cell ((Touch.drew [] W1).trans hRq (by simp)) (a := ⟨AB, 4, none⟩) HA4.out.1 (by simp)).trans HA4.out.2
    simp only [Oper.gives]
    go_simp
    exact ⟨is_mk _ _, Touch.refl _ _⟩
  case o8 =>
    intro vals wq hRq hpq
    simp only [List.getD_cons_zero, List.getD_cons_succ, canonP]
    rw [if_pos (by rfl)]
    simp only [Oper.gives]
    go_simp
    exact ⟨is_mk _ _, Touch.refl _ _⟩
  case o9 =>
    intro vals wq hRq hpq
    simp only [factsP, List.getD_cons_zero, List.getD_cons_succ] at hpq
    have f8 := hpq.1
    replace hpq := hpq.2
    clear hpq
    replace f8 : vals 8 = _ := f8
    simp only [List.getD_cons_zero, List.getD_cons_succ, canonP, f8]
    clear f8
    rw [if_pos (by rfl)]
    have hcc : wq.cell? ⟨AB, 5, none⟩ = some (.int .i64 count) := (Touch.cell ((Touch.drew [] W1).trans hRq (by simp)) (a := ⟨AB, 5, none⟩) HA5.out.1 (by simp)).trans HA5.out.2
    simp only [Oper.gives]
    go_simp
    exact ⟨is_mk _ _, Touch.refl _ _⟩
  case o10 =>
    intro vals wq hRq hpq
    simp only [factsP, List.getD_cons_zero, List.getD_cons_succ] at hpq
    have f3 := hpq.1
    replace hpq := hpq.2
    have f5 := hpq.1
    replace hpq := hpq.2
    have f7 := hpq.1
    replace hpq := hpq.2
    have f9 := hpq.1
    replace hpq := hpq.2
    clear hpq
    replace f3 : vals 3 = _ := f3
    replace f5 : vals 5 = _ := f5
    replace f7 : vals 7 = _ := f7
    replace f9 : vals 9 = _ := f9
    simp only [List.getD_cons_zero, List.getD_cons_succ, canonP, f3, f5, f7, f9]
    clear f3 f5 f7 f9
    rw [if_pos (by rfl)]
    simp only [Oper.gives]
    go_simp
    exact (HADD.out wq (((Touch.drew [] W1).trans hRq (by simp)).below (Nat.le_refl _) (by simp))).mono fun e w' ⟨he, hg⟩ => ⟨_, he, is_mk _ _, Touch.of_below hg⟩
  case o11 =>
    intro vals wq hRq hpq
    simp only [factsP, List.getD_cons_zero, List.getD_cons_succ] at hpq
    have f10 := hpq.1
    replace hpq := hpq.2
    clear hpq
    replace f10 : vals 10 = _ := f10
    simp only [List.getD_cons_zero, List.getD_cons_succ, canonP, f10]
    clear f10
    rw [if_pos (by rfl)]
    simp only [Oper.gives]
    go_simp
    exact ⟨is_mk _ _, Touch.refl _ _⟩
  case o12 =>
    intro vals wq hRq hpq
    simp only [factsP, List.getD_cons_zero, List.getD_cons_succ] at hpq
    have f10 := hpq.1
    replace hpq := hpq.2
    have f11 := hpq.1
    replace hpq := hpq.2
    clear hpq
    replace f10 : vals 10 = _ := f10
    replace f11 : vals 11 = _ := f11
    simp only [List.getD_cons_zero, List.getD_cons_succ, canonP, f10, f11]
    clear f10 f11
    rw [if_pos (by rfl)]
    simp only [Oper.gives]
    go_simp
    exact ⟨is_mk _ _, Touch.refl _ _⟩
  case o13 =>
    intro vals wq hRq hpq
    simp only [factsP, List.getD_cons_zero, List.getD_cons_succ] at hpq
    have f12 := hpq.1
    replace hpq := hpq.2
    clear hpq
    replace f12 : vals 12 = _ := f12
    simp only [List.getD_cons_zero, List.getD_cons_succ, canonP, f12]
    clear f12
    rw [if_pos (by rfl)]
    simp only [Oper.gives]
    go_simp
    exact ⟨is_mk _ _, Touch.refl _ _⟩
  case o14 =>
    intro vals wq hRq hpq
    simp only [factsP, List.getD_cons_zero, List.getD_cons_succ] at hpq
    have f12 := hpq.1
    replace hpq := hpq.2
    clear hpq
    replace f12 : vals 12 = _ := f12
    simp only [List.getD_cons_zero, List.getD_cons_succ, canonP, f12]
    clear f12
    rw [if_pos (by rfl)]
    simp only [Oper.gives]
    go_simp
    exact ⟨is_mk _ _, Touch.refl _ _⟩
  case o15 =>
    intro vals wq hRq hpq
    simp only [factsP, List.getD_cons_zero, List.getD_cons_succ] at hpq
    have f12 := hpq.1
    replace hpq := hpq.2
    have f13 := hpq.1
    replace hpq := hpq.2
    have f14 := hpq.1
    replace hpq := hpq.2
    clear hpq
    replace f12 : vals 12 = _ := f12
    replace f13 : vals 13 = _ := f13
    replace f14 : vals 14 = _ := f14
    simp only [List.getD_cons_zero, List.getD_cons_succ, canonP, f12, f13, f14]
    clear f12 f13 f14
    rw [if_pos (by rfl)]
    have b0 : (0 : Int) ≤ (i : Int) := by omega
    have hi := HI.out
    have b1 : (i : Int) < 2 := by omega
    simp only [Oper.gives]
    go_simp
    exact ⟨is_mk _ _, Touch.refl _ _⟩
  case o16 =>
    intro vals wq hRq hpq
    simp only [factsP, List.getD_cons_zero, List.getD_cons_succ] at hpq
    have f12 := hpq.1
    replace hpq := hpq.2
    have f15 := hpq.1
    replace hpq := hpq.2
    clear hpq
    replace f12 : vals 12 = _ := f12
    replace f15 : vals 15 = _ := f15
    simp only [List.getD_cons_zero, List.getD_cons_succ, canonP, f12, f15]
    clear f12 f15
    rw [if_pos (by rfl)]
    have hcc : wq.cell? ⟨GL, oL + i, none⟩ = some (.pointer p) := (Touch.cell ((Touch.drew [] W1).trans hRq (by simp)) (a := ⟨GL, oL + i, none⟩) HPC.out.1 (by simp)).trans HPC.out.2
    simp only [Oper.gives]
    go_simp
    exact ⟨is_mk _ _, Touch.refl _ _⟩
  case o17 =>
    intro vals wq hRq hpq
    simp only [factsP, List.getD_cons_zero, List.getD_cons_succ] at hpq
    have f12 := hpq.1
    replace hpq := hpq.2
    clear hpq
    replace f12 : vals 12 = _ := f12
    simp only [List.getD_cons_zero, List.getD_cons_succ, canonP, f12]
    clear f12
    rw [if_pos (by rfl)]
    have q0 : wq.cell? ⟨HB, 0, none⟩ = some (.int .u32 (ps : Int)) := (Touch.cell ((Touch.drew [] W1).trans hRq (by simp)) (a := ⟨HB, 0, none⟩) HH0.out.1 (by simp)).trans HH0.out.2
    have q1 : wq.cell? ⟨HB, 1, none⟩ = some (.int .i64 pst) := (Touch.cell ((Touch.drew [] W1).trans hRq (by simp)) (a := ⟨HB, 1, none⟩) HH1.out.1 (by simp)).trans HH1.out.2
    simp only [Oper.gives]
    go_simp
    exact ⟨is_mk _ _, Touch.refl _ _⟩
  case o18 =>
    intro vals wq hRq hpq
    simp only [factsP, List.getD_cons_zero, List.getD_cons_succ] at hpq
    have f12 := hpq.1
    replace hpq := hpq.2
    clear hpq
    replace f12 : vals 12 = _ := f12
    simp only [List.getD_cons_zero, List.getD_cons_succ, canonP, f12]
    clear f12
    rw [if_pos (by rfl)]
    simp only [Oper.gives]
    go_simp
    exact ⟨is_mk _ _, Touch.refl _ _⟩
  case o19 =>
    intro vals wq hRq hpq
    simp only [factsP, List.getD_cons_zero, List.getD_cons_succ] at hpq
    have f12 := hpq.1
    replace hpq := hpq.2
    have f16 := hpq.1
    replace hpq := hpq.2
    have f17 := hpq.1
    replace hpq := hpq.2
    have f18 := hpq.1
    replace hpq := hpq.2
    clear hpq
    replace f12 : vals 12 = _ := f12
    replace f16 : vals 16 = _ := f16
    replace f17 : vals 17 = _ := f17
    replace f18 : vals 18 = _ := f18
    simp only [List.getD_cons_zero, List.getD_cons_succ, canonP, f12, f16, f17, f18]
    clear f12 f16 f17 f18
    rw [if_pos (by rfl)]
    simp only [Oper.gives]
    go_simp
    exact (HDID.out wq (((Touch.drew [] W1).trans hRq (by simp)).below (Nat.le_refl _) (by simp))).mono fun e w' ⟨he, hg⟩ => ⟨_, he, is_mk _ _, Touch.of_below hg⟩
  case o20 =>
    intro vals wq hRq hpq
    simp only [factsP, List.getD_cons_zero, List.getD_cons_succ] at hpq
    have f12 := hpq.1
    replace hpq := hpq.2
    have f19 := hpq.1
    replace hpq := hpq.2
    clear hpq
    replace f12 : vals 12 = _ := f12
    replace f19 : vals 19 = _ := f19
    simp only [List.getD_cons_zero, List.getD_cons_succ, canonP, f12, f19]
    clear f12 f19
    rw [if_pos (by rfl)]
    simp only [Oper.gives]
    go_simp
    exact ⟨is_mk _ _, Touch.refl _ _⟩
  case o21 =>
    intro vals wq hRq hpq
    simp only [factsP, List.getD_cons_zero, List.getD_cons_succ] at hpq
    have f12 := hpq.1
    replace hpq := hpq.2
    have f20 := hpq.1
    replace hpq := hpq.2
    clear hpq
    replace f12 : vals 12 = _ := f12
    replace f20 : vals 20 = _ := f20
    simp only [List.getD_cons_zero, List.getD_cons_succ, canonP, f12, f20]
    clear f12 f20
    rw [if_pos (by rfl)]
    simp only [Oper.gives]
    go_simp
    exact ⟨is_mk _ _, Touch.refl _ _⟩
  case o22 =>
    intro vals wq hRq hpq
    simp only [factsP, List.getD_cons_zero, List.getD_cons_succ] at hpq
    have f19 := hpq.1
    replace hpq := hpq.2
    have f21 := hpq.1
    replace hpq := hpq.2
    clear hpq
    replace f19 : vals 19 = _ := f19
    replace f21 : vals 21 = _ := f21
    simp only [List.getD_cons_zero, List.getD_cons_succ, canonP, f19, f21]
    clear f19 f21
    rw [if_pos (by rfl)]
    simp only [Oper.gives]
    go_simp
    exact ⟨is_mk _ _, Touch.refl _ _⟩
  case o23 =>
    intro vals wq hRq hpq
    simp only [factsP, List.getD_cons_zero, List.getD_cons_succ] at hpq
    have f22 := hpq.1
    replace hpq := hpq.2
    clear hpq
    replace f22 : vals 22 = _ := f22
    simp only [List.getD_cons_zero, List.getD_cons_succ, canonP, f22]
    clear f22
    rw [if_pos (by rfl)]
    simp only [Oper.gives]
    go_simp
    exact ⟨is_mk _ _, Touch.refl _ _⟩
  case o24 =>
    intro vals wq hRq hpq
    simp only [factsP, List.getD_cons_zero, List.getD_cons_succ] at hpq
    have f22 := hpq.1
    replace hpq := hpq.2
    have f23 := hpq.1
    replace hpq := hpq.2
    clear hpq
    replace f22 : vals 22 = _ := f22
    replace f23 : vals 23 = _ := f23
    simp only [List.getD_cons_zero, List.getD_cons_succ, canonP, f22, f23]
    clear f22 f23
    rw [if_pos (by rfl)]
    simp only [Oper.gives]
    go_simp
    exact ⟨is_mk _ _, Touch.refl _ _⟩
  case o25 =>
    intro vals wq hRq hpq
    simp only [factsP, List.getD_cons_zero, List.getD_cons_succ] at hpq
    have f22 := hpq.1
    replace hpq := hpq.2
    have f24 := hpq.1
    replace hpq := hpq.2
    clear hpq
    replace f22 : vals 22 = _ := f22
    replace f24 : vals 24 = _ := f24
    simp only [List.getD_cons_zero, List.getD_cons_succ, canonP, f22, f24]
    clear f22 f24
    rw [if_pos (by rfl)]
    simp only [Oper.gives]
    go_simp
    exact ⟨is_mk _ _, Touch.refl _ _⟩
  case o26 =>
    intro vals wq hRq hpq
    simp only [factsP, List.getD_cons_zero, List.getD_cons_succ] at hpq
    have f25 := hpq.1
    replace hpq := hpq.2
    clear hpq
    replace f25 : vals 25 = _ := f25
    simp only [List.getD_cons_zero, List.getD_cons_succ, canonP, f25]
    clear f25
    rw [if_pos (by rfl)]
    simp only [Oper.gives]
    go_simp
    exact ⟨is_mk _ _, Touch.refl _ _⟩
  case o27 =>
    intro vals wq hRq hpq
    simp only [factsP, List.getD_cons_zero, List.getD_cons_succ] at hpq
    have f25 := hpq.1
    replace hpq := hpq.2
    clear hpq
    replace f25 : vals 25 = _ := f25
    simp only [List.getD_cons_zero, List.getD_cons_succ, canonP, f25]
    clear f25
    rw [if_pos (by rfl)]
    simp only [Oper.gives]
    go_simp
    exact ⟨is_mk _ _, Touch.refl _ _⟩
  case o28 =>
    intro vals wq hRq hpq
    simp only [factsP, List.getD_cons_zero, List.getD_cons_succ] at hpq
    have f25 := hpq.1
    replace hpq := hpq.2
    have f26 := hpq.1
    replace hpq := hpq.2
    have f27 := hpq.1
    replace hpq := hpq.2
    clear hpq
    replace f25 : vals 25 = _ := f25
    replace f26 : vals 26 = _ := f26
    replace f27 : vals 27 = _ := f27
    simp only [List.getD_cons_zero, List.getD_cons_succ, canonP, f25, f26, f27]
    clear f25 f26 f27
    rw [if_pos (by rfl)]
    have b0 : (0 : Int) ≤ (i : Int) := by omega
    have hi := HI.out
    have b1 : (i : Int) < 2 := by omega
    simp only [Oper.gives]
    go_simp
    exact ⟨is_mk _ _, Touch.refl _ _⟩
  case o29 =>
    intro vals wq hRq hpq
    simp only [factsP, List.getD_cons_zero, List.getD_cons_succ] at hpq
    have f25 := hpq.1
    replace hpq := hpq.2
    have f28 := hpq.1
    replace hpq := hpq.2
    clear hpq
    replace f25 : vals 25 = _ := f25
    replace f28 : vals 28 = _ := f28
    simp only [List.getD_cons_zero, List.getD_cons_succ, canonP, f25, f28]
    clear f25 f28
    rw [if_pos (by rfl)]
    have hcc : wq.cell? ⟨GL, oL + i, none⟩ = some (.pointer p) := (Touch.cell ((Touch.drew [] W1).trans hRq (by simp)) (a := ⟨GL, oL + i, none⟩) HPC.out.1 (by simp)).trans HPC.out.2
    simp only [Oper.gives]
    go_simp
    exact ⟨is_mk _ _, Touch.refl _ _⟩
  case o30 =>
    intro vals wq hRq hpq
    simp only [factsP, List.getD_cons_zero, List.getD_cons_succ] at hpq
    have f25 := hpq.1
    replace hpq := hpq.2
    clear hpq
    replace f25 : vals 25 = _ := f25
    simp only [List.getD_cons_zero, List.getD_cons_succ, canonP, f25]
    clear f25
    rw [if_pos (by rfl)]
    simp only [Oper.gives]
    go_simp
    exact ⟨is_mk _ _, Touch.refl _ _⟩
  case o31 =>
    intro vals wq hRq hpq
    simp only [factsP, List.getD_cons_zero, List.getD_cons_succ] at hpq
    have f25 := hpq.1
    replace hpq := hpq.2
    have f29 := hpq.1
    replace hpq := hpq.2
    have f30 := hpq.1
    replace hpq := hpq.2
    clear hpq
    replace f25 : vals 25 = _ := f25
    replace f29 : vals 29 = _ := f29
    replace f30 : vals 30 = _ := f30
    simp only [List.getD_cons_zero, List.getD_cons_succ, canonP, f25, f29, f30]
    clear f25 f29 f30
    rw [if_pos (by rfl)]
    simp only [Oper.gives]
    go_simp
    exact (HIN.out wq (((Touch.drew [] W1).trans hRq (by simp)).below (Nat.le_refl _) (by simp))).mono fun e w' ⟨he, hg⟩ => ⟨_, he, is_mk _ _, Touch.of_below hg⟩
  case o32 =>
    intro vals wq hRq hpq
    simp only [factsP, List.getD_cons_zero, List.getD_cons_succ] at hpq
    have f25 := hpq.1
    replace hpq := hpq.2
    have f31 := hpq.1
    replace hpq := hpq.2
    clear hpq
    replace f25 : vals 25 = _ := f25
    replace f31 : vals 31 = _ := f31
    simp only [List.getD_cons_zero, List.getD_cons_succ, canonP, f25, f31]
    clear f25 f31
    rw [if_pos (by rfl)]
    simp only [Oper.gives]
    go_simp
    exact ⟨is_mk _ _, Touch.refl _ _⟩
  case o33 =>
    intro vals wq hRq hpq
    simp only [factsP, List.getD_cons_zero, List.getD_cons_succ] at hpq
    have f31 := hpq.1
    replace hpq := hpq.2
    have f32 := hpq.1
    replace hpq := hpq.2
    clear hpq
    replace f31 : vals 31 = _ := f31
    replace f32 : vals 32 = _ := f32
    simp only [List.getD_cons_zero, List.getD_cons_succ, canonP, f31, f32]
    clear f31 f32
    rw [if_pos (by rfl)]
    simp only [Oper.gives]
    go_simp
    exact ⟨is_mk _ _, Touch.refl _ _⟩
  case o34 =>
    intro vals wq hRq hpq
    simp only [factsP, List.getD_cons_zero, List.getD_cons_succ] at hpq
    have f33 := hpq.1
    replace hpq := hpq.2
    clear hpq
    replace f33 : vals 33 = _ := f33
    simp only [List.getD_cons_zero, List.getD_cons_succ, canonP, f33]
    clear f33
    rw [if_pos (by rfl)]
    have hbx : wq.heap[XB]? = some (.cells Z 33) := (Touch.block ((Touch.drew [] W1).trans hRq (by simp)) XB (Array.getElem?_eq_some_iff.1 HXB.out).1 (by simp)).trans HXB.out
    exact gives_load_row 33 _ rfl XB rfl 33 Z (0, 0) _ hbx Try.underlying33 rfl HSA.out ⟨is_mk _ _, Touch.refl _ _⟩
  case o35 =>
    intro vals wq hRq hpq
    simp only [factsP, List.getD_cons_zero, List.getD_cons_succ] at hpq
    have f33 := hpq.1
    replace hpq := hpq.2
    clear hpq
    replace f33 : vals 33 = _ := f33
    simp only [List.getD_cons_zero, List.getD_cons_succ, canonP, f33]
    clear f33
    rw [if_pos (by rfl)]
    exact gives_build 33 _ rfl Z (by simp only [List.map_toArray, List.map_nil]; exact HBZ.out) ⟨is_mk _ _, Touch.refl _ _⟩
  case o36 =>
    intro vals wq hRq hpq
    simp only [factsP, List.getD_cons_zero, List.getD_cons_succ] at hpq
    have f33 := hpq.1
    replace hpq := hpq.2
    have f34 := hpq.1
    replace hpq := hpq.2
    have f35 := hpq.1
    replace hpq := hpq.2
    clear hpq
    replace f33 : vals 33 = _ := f33
    replace f34 : vals 34 = _ := f34
    replace f35 : vals 35 = _ := f35
    simp only [List.getD_cons_zero, List.getD_cons_succ, canonP, f33, f34, f35]
    clear f33 f34 f35
    rw [if_pos (by rfl)]
    exact gives_binOp .neq 33 _ _ _ rfl _ _ rfl rfl (HGB.out _ _ wq) (HNE.out wq) ⟨is_mk _ _, Touch.refl _ _⟩
  case o37 =>
    intro vals wq hRq hpq
    simp only [factsP, List.getD_cons_zero, List.getD_cons_succ] at hpq
    have f33 := hpq.1
    replace hpq := hpq.2
    have f36 := hpq.1
    replace hpq := hpq.2
    clear hpq
    replace f33 : vals 33 = _ := f33
    replace f36 : vals 36 = _ := f36
    simp only [List.getD_cons_zero, List.getD_cons_succ, canonP, f33, f36]
    clear f33 f36
    rw [if_pos (by rfl)]
    simp only [Oper.gives]
    go_simp
    exact ⟨is_mk _ _, Touch.refl _ _⟩
  case o38 =>
    intro vals wq hRq hpq
    simp only [factsP, List.getD_cons_zero, List.getD_cons_succ] at hpq
    have f33 := hpq.1
    replace hpq := hpq.2
    have f37 := hpq.1
    replace hpq := hpq.2
    clear hpq
    replace f33 : vals 33 = _ := f33
    replace f37 : vals 37 = _ := f37
    simp only [List.getD_cons_zero, List.getD_cons_succ, canonP, f33, f37]
    clear f33 f37
    rw [if_pos (by rfl)]
    simp only [Oper.gives]
    go_simp
    exact ⟨is_mk _ _, Touch.refl _ _⟩
  case o39 =>
    intro vals wq hRq hpq
    simp only [factsP, List.getD_cons_zero, List.getD_cons_succ] at hpq
    have f38 := hpq.1
    replace hpq := hpq.2
    clear hpq
    replace f38 : vals 38 = _ := f38
    simp only [List.getD_cons_zero, List.getD_cons_succ, canonP, f38]
    clear f38
    rw [if_pos (by rfl)]
    simp only [Oper.gives]
    go_simp
    exact ⟨is_mk _ _, Touch.refl _ _⟩
  case o40 =>
    intro vals wq hRq hpq
    simp only [factsP, List.getD_cons_zero, List.getD_cons_succ] at hpq
    have f38 := hpq.1
    replace hpq := hpq.2
    clear hpq
    replace f38 : vals 38 = _ := f38
    simp only [List.getD_cons_zero, List.getD_cons_succ, canonP, f38]
    clear f38
    rw [if_pos (by rfl)]
    simp only [Oper.gives]
    go_simp
    exact ⟨is_mk _ _, Touch.refl _ _⟩
  case o41 =>
    intro vals wq hRq hpq
    simp only [factsP, List.getD_cons_zero, List.getD_cons_succ] at hpq
    have f38 := hpq.1
    replace hpq := hpq.2
    have f39 := hpq.1
    replace hpq := hpq.2
    have f40 := hpq.1
    replace hpq := hpq.2
    clear hpq
    replace f38 : vals 38 = _ := f38
    replace f39 : vals 39 = _ := f39
    replace f40 : vals 40 = _ := f40
    simp only [List.getD_cons_zero, List.getD_cons_succ, canonP, f38, f39, f40]
    clear f38 f39 f40
    rw [if_pos (by rfl)]
    have b0 : (0 : Int) ≤ (i : Int) := by omega
    have hi := HI.out
    have b1 : (i : Int) < 2 := by omega
    simp only [Oper.gives]
    go_simp
    exact ⟨is_mk _ _, Touch.refl _ _⟩
  case o42 =>
    intro vals wq hRq hpq
    simp only [factsP, List.getD_cons_zero, List.getD_cons_succ] at hpq
    have f38 := hpq.1
    replace hpq := hpq.2
    have f41 := hpq.1
    replace hpq := hpq.2
    clear hpq
    replace f38 : vals 38 = _ := f38
    replace f41 : vals 41 = _ := f41
    simp only [List.getD_cons_zero, List.getD_cons_succ, canonP, f38, f41]
    clear f38 f41
    rw [if_pos (by rfl)]
    have hcc : wq.cell? ⟨GL, oL + i, none⟩ = some (.pointer p) := (Touch.cell ((Touch.drew [] W1).trans hRq (by simp)) (a := ⟨GL, oL + i, none⟩) HPC.out.1 (by simp)).trans HPC.out.2
    simp only [Oper.gives]
    go_simp
    exact ⟨is_mk _ _, Touch.refl _ _⟩
  case o43 =>
    intro vals wq hRq hpq
    simp only [factsP, List.getD_cons_zero, List.getD_cons_succ] at hpq
    have f38 := hpq.1
    replace hpq := hpq.2
    have f42 := hpq.1
    replace hpq := hpq.2
    clear hpq
    replace f38 : vals 38 = _ := f38
    replace f42 : vals 42 = _ := f42
    simp only [List.getD_cons_zero, List.getD_cons_succ, canonP, f38, f42]
    clear f38 f42
    rw [if_pos (by rfl)]
    simp only [Oper.gives]
    go_simp
    exact (HLEN.out wq (((Touch.drew [] W1).trans hRq (by simp)).below (Nat.le_refl _) (by simp))).mono fun e w' ⟨he, hg⟩ => ⟨_, he, is_mk _ _, Touch.of_below hg⟩
  case o44 =>
    intro vals wq hRq hpq
    simp only [factsP, List.getD_cons_zero, List.getD_cons_succ] at hpq
    have f38 := hpq.1
    replace hpq := hpq.2
    have f43 := hpq.1
    replace hpq := hpq.2
    clear hpq
    replace f38 : vals 38 = _ := f38
    replace f43 : vals 43 = _ := f43
    simp only [List.getD_cons_zero, List.getD_cons_succ, canonP, f38, f43]
    clear f38 f43
    rw [if_pos (by rfl)]
    simp only [Oper.gives]
    go_simp
    exact ⟨is_mk _ _, Touch.refl _ _⟩
  case o45 =>
    intro vals wq hRq hpq
    simp only [factsP, List.getD_cons_zero, List.getD_cons_succ] at hpq
    have f38 := hpq.1
    replace hpq := hpq.2
    have f44 := hpq.1
    replace hpq := hpq.2
    clear hpq
    replace f38 : vals 38 = _ := f38
    replace f44 : vals 44 = _ := f44
    simp only [List.getD_cons_zero, List.getD_cons_succ, canonP, f38, f44]
    clear f38 f44
    rw [if_pos (by rfl)]
    simp only [Oper.gives]
    go_simp
    exact ⟨is_mk _ _, Touch.refl _ _⟩
  case o46 =>
    intro vals wq hRq hpq
    simp only [factsP, List.getD_cons_zero, List.getD_cons_succ] at hpq
    have f43 := hpq.1
    replace hpq := hpq.2
    have f45 := hpq.1
    replace hpq := hpq.2
    clear hpq
    replace f43 : vals 43 = _ := f43
    replace f45 : vals 45 = _ := f45
    simp only [List.getD_cons_zero, List.getD_cons_succ, canonP, f43, f45]
    clear f43 f45
    rw [if_pos (by rfl)]
    simp only [Oper.gives]
    go_simp
    exact ⟨is_mk _ _, Touch.refl _ _⟩
  case o47 =>
    intro vals wq hRq hpq
    simp only [factsP, List.getD_cons_zero, List.getD_cons_succ] at hpq
    have f46 := hpq.1
    replace hpq := hpq.2
    clear hpq
    replace f46 : vals 46 = _ := f46
    simp only [List.getD_cons_zero, List.getD_cons_succ, canonP, f46]
    clear f46
    rw [if_pos (by rfl)]
    simp only [Oper.gives]
    go_simp
    exact ⟨is_mk _ _, Touch.refl _ _⟩
  case o48 =>
    intro vals wq hRq hpq
    simp only [factsP, List.getD_cons_zero, List.getD_cons_succ] at hpq
    have f46 := hpq.1
    replace hpq := hpq.2
    clear hpq
    replace f46 : vals 46 = _ := f46
    simp only [List.getD_cons_zero, List.getD_cons_succ, canonP, f46]
    clear f46
    rw [if_pos (by rfl)]
    simp only [Oper.gives]
    go_simp
    exact ⟨is_mk _ _, Touch.refl _ _⟩
  case o49 =>
    intro vals wq hRq hpq
    simp only [factsP, List.getD_cons_zero, List.getD_cons_succ] at hpq
    have f46 := hpq.1
    replace hpq := hpq.2
    have f47 := hpq.1
    replace hpq := hpq.2
    have f48 := hpq.1
    replace hpq := hpq.2
    clear hpq
    replace f46 : vals 46 = _ := f46
    replace f47 : vals 47 = _ := f47
    replace f48 : vals 48 = _ := f48
    simp only [List.getD_cons_zero, List.getD_cons_succ, canonP, f46, f47, f48]
    clear f46 f47 f48
    rw [if_pos (by rfl)]
    have b0 : (0 : Int) ≤ (i : Int) := by omega
    have hi := HI.out
    have b1 : (i : Int) < 2 := by omega
    simp only [Oper.gives]
    go_simp
    exact ⟨is_mk _ _, Touch.refl _ _⟩
  case o50 =>
    intro vals wq hRq hpq
    simp only [factsP, List.getD_cons_zero, List.getD_cons_succ] at hpq
    have f46 := hpq.1
    replace hpq := hpq.2
    have f49 := hpq.1
    replace hpq := hpq.2
    clear hpq
    replace f46 : vals 46 = _ := f46
    replace f49 : vals 49 = _ := f49
    simp only [List.getD_cons_zero, List.getD_cons_succ, canonP, f46, f49]
    clear f46 f49
    rw [if_pos (by rfl)]
    have hcc : wq.cell? ⟨GL, oL + i, none⟩ = some (.pointer p) := (Touch.cell ((Touch.drew [] W1).trans hRq (by simp)) (a := ⟨GL, oL + i, none⟩) HPC.out.1 (by simp)).trans HPC.out.2
    simp only [Oper.gives]
    go_simp
    exact ⟨is_mk _ _, Touch.refl _ _⟩
  case o51 =>
    intro vals wq hRq hpq
    simp only [factsP, List.getD_cons_zero, List.getD_cons_succ] at hpq
    have f46 := hpq.1
    replace hpq := hpq.2
    have f50 := hpq.1
    replace hpq := hpq.2
    clear hpq
    replace f46 : vals 46 = _ := f46
    replace f50 : vals 50 = _ := f50
    simp only [List.getD_cons_zero, List.getD_cons_succ, canonP, f46, f50]
    clear f46 f50
    rw [if_pos (by rfl)]
    simp only [Oper.gives]
    go_simp
    exact (HLF.out wq (((Touch.drew [] W1).trans hRq (by simp)).below (Nat.le_refl _) (by simp))).mono fun e w' ⟨he, hg⟩ => ⟨_, he, is_mk _ _, Touch.of_below hg⟩
  case o52 =>
    intro vals wq hRq hpq
    simp only [factsP, List.getD_cons_zero, List.getD_cons_succ] at hpq
    have f46 := hpq.1
    replace hpq := hpq.2
    have f51 := hpq.1
    replace hpq := hpq.2
    clear hpq
    replace f46 : vals 46 = _ := f46
    replace f51 : vals 51 = _ := f51
    simp only [List.getD_cons_zero, List.getD_cons_succ, canonP, f46, f51]
    clear f46 f51
    rw [if_pos (by rfl)]
    simp only [Oper.gives]
    go_simp
    exact ⟨is_mk _ _, Touch.refl _ _⟩
  case o53 =>
    intro vals wq hRq hpq
    simp only [factsP, List.getD_cons_zero, List.getD_cons_succ] at hpq
    have f46 := hpq.1
    replace hpq := hpq.2
    have f52 := hpq.1
    replace hpq := hpq.2
    clear hpq
    replace f46 : vals 46 = _ := f46
    replace f52 : vals 52 = _ := f52
    simp only [List.getD_cons_zero, List.getD_cons_succ, canonP, f46, f52]
    clear f46 f52
    rw [if_pos (by rfl)]
    simp only [Oper.gives]
    go_simp
    exact ⟨is_mk _ _, Touch.refl _ _⟩
  case o54 =>
    intro vals wq hRq hpq
    simp only [factsP, List.getD_cons_zero, List.getD_cons_succ] at hpq
    have f46 := hpq.1
    replace hpq := hpq.2
    have f53 := hpq.1
    replace hpq := hpq.2
    clear hpq
    replace f46 : vals 46 = _ := f46
    replace f53 : vals 53 = _ := f53
    simp only [List.getD_cons_zero, List.getD_cons_succ, canonP, f46, f53]
    clear f46 f53
    rw [if_pos (by rfl)]
    simp only [Oper.gives]
    go_simp
    exact ⟨is_mk _ _, Touch.refl _ _⟩
  case o55 =>
    intro vals wq hRq hpq
    simp only [factsP, List.getD_cons_zero, List.getD_cons_succ] at hpq
    have f51 := hpq.1
    replace hpq := hpq.2
    have f54 := hpq.1
    replace hpq := hpq.2
    clear hpq
    replace f51 : vals 51 = _ := f51
    replace f54 : vals 54 = _ := f54
    simp only [List.getD_cons_zero, List.getD_cons_succ, canonP, f51, f54]
    clear f51 f54
    rw [if_pos (by rfl)]
    simp only [Oper.gives]
    go_simp
    exact ⟨is_mk _ _, Touch.refl _ _⟩
  case o56 =>
    intro vals wq hRq hpq
    simp only [factsP, List.getD_cons_zero, List.getD_cons_succ] at hpq
    have f55 := hpq.1
    replace hpq := hpq.2
    clear hpq
    replace f55 : vals 55 = _ := f55
    simp only [List.getD_cons_zero, List.getD_cons_succ, canonP, f55]
    clear f55
    rw [if_pos (by rfl)]
    simp only [Oper.gives]
    go_simp
    exact ⟨is_mk _ _, Touch.refl _ _⟩
  case o57 =>
    intro vals wq hRq hpq
    simp only [factsP, List.getD_cons_zero, List.getD_cons_succ] at hpq
    have f55 := hpq.1
    replace hpq := hpq.2
    clear hpq
    replace f55 : vals 55 = _ := f55
    simp only [List.getD_cons_zero, List.getD_cons_succ, canonP, f55]
    clear f55
    rw [if_pos (by rfl)]
    simp only [Oper.gives]
    go_simp
    exact ⟨is_mk _ _, Touch.refl _ _⟩
  case o58 =>
    intro vals wq hRq hpq
    simp only [factsP, List.getD_cons_zero, List.getD_cons_succ] at hpq
    have f55 := hpq.1
    replace hpq := hpq.2
    have f56 := hpq.1
    replace hpq := hpq.2
    have f57 := hpq.1
    replace hpq := hpq.2
    clear hpq
    replace f55 : vals 55 = _ := f55
    replace f56 : vals 56 = _ := f56
    replace f57 : vals 57 = _ := f57
    simp only [List.getD_cons_zero, List.getD_cons_succ, canonP, f55, f56, f57]
    clear f55 f56 f57
    rw [if_pos (by rfl)]
    have b0 : (0 : Int) ≤ (i : Int) := by omega
    have hi := HI.out
    have b1 : (i : Int) < 2 := by omega
    simp only [Oper.gives]
    go_simp
    exact ⟨is_mk _ _, Touch.refl _ _⟩
  case o59 =>
    intro vals wq hRq hpq
    simp only [factsP, List.getD_cons_zero, List.getD_cons_succ] at hpq
    have f55 := hpq.1
    replace hpq := hpq.2
    have f58 := hpq.1
    replace hpq := hpq.2
    clear hpq
    replace f55 : vals 55 = _ := f55
    replace f58 : vals 58 = _ := f58
    simp only [List.getD_cons_zero, List.getD_cons_succ, canonP, f55, f58]
    clear f55 f58
    rw [if_pos (by rfl)]
    have hcc : wq.cell? ⟨GL, oL + i, none⟩ = some (.pointer p) := (Touch.cell ((Touch.drew [] W1).trans hRq (by simp)) (a := ⟨GL, oL + i, none⟩) HPC.out.1 (by simp)).trans HPC.out.2
    simp only [Oper.gives]
    go_simp
    exact ⟨is_mk _ _, Touch.refl _ _⟩
  case o60 =>
    intro vals wq hRq hpq
    simp only [factsP, List.getD_cons_zero, List.getD_cons_succ] at hpq
    have f55 := hpq.1
    replace hpq := hpq.2
    clear hpq
    replace f55 : vals 55 = _ := f55
    simp only [List.getD_cons_zero, List.getD_cons_succ, canonP, f55]
    clear f55
    rw [if_pos (by rfl)]
    have q0 : wq.cell? ⟨HB, 0, none⟩ = some (.int .u32 (ps : Int)) := (Touch.cell ((Touch.drew [] W1).trans hRq (by simp)) (a := ⟨HB, 0, none⟩) HH0.out.1 (by simp)).trans HH0.out.2
    have q1 : wq.cell? ⟨HB, 1, none⟩ = some (.int .i64 pst) := (Touch.cell ((Touch.drew [] W1).trans hRq (by simp)) (a := ⟨HB, 1, none⟩) HH1.out.1 (by simp)).trans HH1.out.2
    simp only [Oper.gives]
    go_simp
    exact ⟨is_mk _ _, Touch.refl _ _⟩
  case o61 =>
    intro vals wq hRq hpq
    simp only [factsP, List.getD_cons_zero, List.getD_cons_succ] at hpq
    have f55 := hpq.1
    replace hpq := hpq.2
    clear hpq
    replace f55 : vals 55 = _ := f55
    simp only [List.getD_cons_zero, List.getD_cons_succ, canonP, f55]
    clear f55
    rw [if_pos (by rfl)]
    simp only [Oper.gives]
    go_simp
    exact ⟨is_mk _ _, Touch.refl _ _⟩
  case o62 =>
    intro vals wq hRq hpq
    simp only [factsP, List.getD_cons_zero, List.getD_cons_succ] at hpq
    have f55 := hpq.1
    replace hpq := hpq.2
    have f59 := hpq.1
    replace hpq := hpq.2
    have f60 := hpq.1
    replace hpq := hpq.2
    have f61 := hpq.1
    replace hpq := hpq.2
    clear hpq
    replace f55 : vals 55 = _ := f55
    replace f59 : vals 59 = _ := f59
    replace f60 : vals 60 = _ := f60
    replace f61 : vals 61 = _ := f61
    simp only [List.getD_cons_zero, List.getD_cons_succ, canonP, f55, f59, f60, f61]
    clear f55 f59 f60 f61
    rw [if_pos (by rfl)]
    simp only [Oper.gives]
    go_simp
    exact (HNX.out wq (((Touch.drew [] W1).trans hRq (by simp)).below (Nat.le_refl _) (by simp))).mono fun e w' ⟨he, hg⟩ => ⟨_, he, is_mk _ _, Touch.of_below hg⟩
  case o63 =>
    intro vals wq hRq hpq
    simp only [factsP, List.getD_cons_zero, List.getD_cons_succ] at hpq
    have f55 := hpq.1
    replace hpq := hpq.2
    clear hpq
    replace f55 : vals 55 = _ := f55
    simp only [List.getD_cons_zero, List.getD_cons_succ, canonP, f55]
    clear f55
    rw [if_pos (by rfl)]
    exact gives_build 74 _ rfl SZ (by simp only [List.map_toArray, List.map_nil]; exact HBS.out) ⟨is_mk _ _, Touch.refl _ _⟩
  case o64 =>
    intro vals wq hRq hpq
    simp only [factsP, List.getD_cons_zero, List.getD_cons_succ] at hpq
    have f55 := hpq.1
    replace hpq := hpq.2
    have f62 := hpq.1
    replace hpq := hpq.2
    have f63 := hpq.1
    replace hpq := hpq.2
    clear hpq
    replace f55 : vals 55 = _ := f55
    replace f62 : vals 62 = _ := f62
    replace f63 : vals 63 = _ := f63
    simp only [List.getD_cons_zero, List.getD_cons_succ, canonP, f55, f62, f63]
    clear f55 f62 f63
    rw [if_pos (by rfl)]
    simp only [Oper.gives]
    go_simp
    exact (HST.out wq (((Touch.drew [] W1).trans hRq (by simp)).below (Nat.le_refl _) (by simp))).mono fun e w' ⟨he, hg⟩ => ⟨_, he, is_mk _ _, Touch.of_below hg⟩
  case o65 =>
    intro vals wq hRq hpq
    simp only [factsP, List.getD_cons_zero, List.getD_cons_succ] at hpq
    have f55 := hpq.1
    replace hpq := hpq.2
    have f64 := hpq.1
    replace hpq := hpq.2
    clear hpq
    replace f55 : vals 55 = _ := f55
    replace f64 : vals 64 = _ := f64
    simp only [List.getD_cons_zero, List.getD_cons_succ, canonP, f55, f64]
    clear f55 f64
    rw [if_pos (by rfl)]
    simp only [Oper.gives]
    go_simp
    exact ⟨is_mk _ _, Touch.refl _ _⟩
  case o66 =>
    intro vals wq hRq hpq
    simp only [factsP, List.getD_cons_zero, List.getD_cons_succ] at hpq
    have f55 := hpq.1
    replace hpq := hpq.2
    have f65 := hpq.1
    replace hpq := hpq.2
    clear hpq
    replace f55 : vals 55 = _ := f55
    replace f65 : vals 65 = _ := f65
    simp only [List.getD_cons_zero, List.getD_cons_succ, canonP, f55, f65]
    clear f55 f65
    rw [if_pos (by rfl)]
    simp only [Oper.gives]
    go_simp
    exact ⟨is_mk _ _, Touch.refl _ _⟩
  intro vals wz hRwz hfwz
  simp only [AllFacts] at hfwz
  have g0 := hfwz.1
  replace hfwz := hfwz.2
  have g1 := hfwz.1
  replace hfwz := hfwz.2
  have g2 := hfwz.1
  replace hfwz := hfwz.2
  have g3 := hfwz.1
  replace hfwz := hfwz.2
  have g4 := hfwz.1
  replace hfwz := hfwz.2
  have g5 := hfwz.1
  replace hfwz := hfwz.2
  have g6 := hfwz.1
  replace hfwz := hfwz.2
  have g7 := hfwz.1
  replace hfwz := hfwz.2
  have g8 := hfwz.1
  replace hfwz := hfwz.2
  have g9 := hfwz.1
  replace hfwz := hfwz.2
  have g10 := hfwz.1
  replace hfwz := hfwz.2
  have g11 := hfwz.1
  replace hfwz := hfwz.2
  have g12 := hfwz.1
  replace hfwz := hfwz.2
  have g13 := hfwz.1
  replace hfwz := hfwz.2
  have g14 := hfwz.1
  replace hfwz := hfwz.2
  have g15 := hfwz.1
  replace hfwz := hfwz.2
  have g16 := hfwz.1
  replace hfwz := hfwz.2
  have g17 := hfwz.1
  replace hfwz := hfwz.2
  have g18 := hfwz.1
  replace hfwz := hfwz.2
  have g19 := hfwz.1
  replace hfwz := hfwz.2
  have g20 := hfwz.1
  replace hfwz := hfwz.2
  have g21 := hfwz.1
  replace hfwz := hfwz.2
  have g22 := hfwz.1
  replace hfwz := hfwz.2
  have g23 := hfwz.1
  replace hfwz := hfwz.2
  have g24 := hfwz.1
  replace hfwz := hfwz.2
  have g25 := hfwz.1
  replace hfwz := hfwz.2
  have g26 := hfwz.1
  replace hfwz := hfwz.2
  have g27 := hfwz.1
  replace hfwz := hfwz.2
  have g28 := hfwz.1
  replace hfwz := hfwz.2
  have g29 := hfwz.1
  replace hfwz := hfwz.2
  have g30 := hfwz.1
  replace hfwz := hfwz.2
  have g31 := hfwz.1
  replace hfwz := hfwz.2
  have g32 := hfwz.1
  replace hfwz := hfwz.2
  have g33 := hfwz.1
  replace hfwz := hfwz.2
  have g34 := hfwz.1
  replace hfwz := hfwz.2
  have g35 := hfwz.1
  replace hfwz := hfwz.2
  have g36 := hfwz.1
  replace hfwz := hfwz.2
  have g37 := hfwz.1
  replace hfwz := hfwz.2
  have g38 := hfwz.1
  replace hfwz := hfwz.2
  have g39 := hfwz.1
  replace hfwz := hfwz.2
  have g40 := hfwz.1
  replace hfwz := hfwz.2
  have g41 := hfwz.1
  replace hfwz := hfwz.2
  have g42 := hfwz.1
  replace hfwz := hfwz.2
  have g43 := hfwz.1
  replace hfwz := hfwz.2
  have g44 := hfwz.1
  replace hfwz := hfwz.2
  have g45 := hfwz.1
  replace hfwz := hfwz.2
  have g46 := hfwz.1
  replace hfwz := hfwz.2
  have g47 := hfwz.1
  replace hfwz := hfwz.2
  have g48 := hfwz.1
  replace hfwz := hfwz.2
  have g49 := hfwz.1
  replace hfwz := hfwz.2
  have g50 := hfwz.1
  replace hfwz := hfwz.2
  have g51 := hfwz.1
  replace hfwz := hfwz.2
  have g52 := hfwz.1
  replace hfwz := hfwz.2
  have g53 := hfwz.1
  replace hfwz := hfwz.2
  have g54 := hfwz.1
  replace hfwz := hfwz.2
  have g55 := hfwz.1
  replace hfwz := hfwz.2
  have g56 := hfwz.1
  replace hfwz := hfwz.2
  have g57 := hfwz.1
  replace hfwz := hfwz.2
  have g58 := hfwz.1
  replace hfwz := hfwz.2
  have g59 := hfwz.1
  replace hfwz := hfwz.2
  have g60 := hfwz.1
  replace hfwz := hfwz.2
  have g61 := hfwz.1
  replace hfwz := hfwz.2
  have g62 := hfwz.1
  replace hfwz := hfwz.2
  have g63 := hfwz.1
  replace hfwz := hfwz.2
  have g64 := hfwz.1
  replace hfwz := hfwz.2
  have g65 := hfwz.1
  replace hfwz := hfwz.2
  have g66 := hfwz.1
  replace hfwz := hfwz.2
  clear hfwz
  replace g0 : vals 0 = _ := g0
  replace g1 : vals 1 = _ := g1
  replace g2 : vals 2 = _ := g2
  replace g3 : vals 3 = _ := g3
  replace g4 : vals 4 = _ := g4
  replace g5 : vals 5 = _ := g5
  replace g6 : vals 6 = _ := g6
  replace g7 : vals 7 = _ := g7
  replace g8 : vals 8 = _ := g8
  replace g9 : vals 9 = _ := g9
  replace g10 : vals 10 = _ := g10
  replace g11 : vals 11 = _ := g11
  replace g12 : vals 12 = _ := g12
  replace g13 : vals 13 = _ := g13
  replace g14 : vals 14 = _ := g14
  replace g15 : vals 15 = _ := g15
  replace g16 : vals 16 = _ := g16
  replace g17 : vals 17 = _ := g17
  replace g18 : vals 18 = _ := g18
  replace g19 : vals 19 = _ := g19
  replace g20 : vals 20 = _ := g20
  replace g21 : vals 21 = _ := g21
  replace g22 : vals 22 = _ := g22
  replace g23 : vals 23 = _ := g23
  replace g24 : vals 24 = _ := g24
  replace g25 : vals 25 = _ := g25
  replace g26 : vals 26 = _ := g26
  replace g27 : vals 27 = _ := g27
  replace g28 : vals 28 = _ := g28
  replace g29 : vals 29 = _ := g29
  replace g30 : vals 30 = _ := g30
  replace g31 : vals 31 = _ := g31
  replace g32 : vals 32 = _ := g32
  replace g33 : vals 33 = _ := g33
  replace g34 : vals 34 = _ := g34
  replace g35 : vals 35 = _ := g35
  replace g36 : vals 36 = _ := g36
  replace g37 : vals 37 = _ := g37
  replace g38 : vals 38 = _ := g38
  replace g39 : vals 39 = _ := g39
  replace g40 : vals 40 = _ := g40
  replace g41 : vals 41 = _ := g41
  replace g42 : vals 42 = _ := g42
  replace g43 : vals 43 = _ := g43
  replace g44 : vals 44 = _ := g44
  replace g45 : vals 45 = _ := g45
  replace g46 : vals 46 = _ := g46
  replace g47 : vals 47 = _ := g47
  replace g48 : vals 48 = _ := g48
  replace g49 : vals 49 = _ := g49
  replace g50 : vals 50 = _ := g50
  replace g51 : vals 51 = _ := g51
  replace g52 : vals 52 = _ := g52
  replace g53 : vals 53 = _ := g53
  replace g54 : vals 54 = _ := g54
  replace g55 : vals 55 = _ := g55
  replace g56 : vals 56 = _ := g56
  replace g57 : vals 57 = _ := g57
  replace g58 : vals 58 = _ := g58
  replace g59 : vals 59 = _ := g59
  replace g60 : vals 60 = _ := g60
  replace g61 : vals 61 = _ := g61
  replace g62 : vals 62 = _ := g62
  replace g63 : vals 63 = _ := g63
  replace g64 : vals 64 = _ := g64
  replace g65 : vals 65 = _ := g65
  replace g66 : vals 66 = _ := g66
  simp only [canonP, Act.put, List.setIfInBounds_toArray, List.set_cons_succ, List.set_cons_zero, g0, g1, g2, g3, g4, g5, g6, g7, g8, g9, g10, g11, g12, g13, g14, g15, g16, g17, g18, g19, g20, g21, g22, g23, g24, g25, g26, g27, g28, g29, g30, g31, g32, g33, g34, g35, g36, g37, g38, g39, g40, g41, g42, g43, g44, g45, g46, g47, g48, g49, g50, g51, g52, g53, g54, g55, g56, g57, g58, g59, g60, g61, g62, g63, g64, g65, g66]
  clear g0 g1 g2 g3 g4 g5 g6 g7 g8 g9 g10 g11 g12 g13 g14 g15 g16 g17 g18 g19 g20 g21 g22 g23 g24 g25 g26 g27 g28 g29 g30 g31 g32 g33 g34 g35 g36 g37 g38 g39 g40 g41 g42 g43 g44 g45 g46 g47 g48 g49 g50 g51 g52 g53 g54 g55 g56 g57 g58 g59 g60 g61 g62 g63 g64 g65 g66
  exact HK.out _ _ _ _ _ _ _ _ _ _ _ _ _ _ _ _ _ _ _ _ _ _ _ _ _ _ _ _ _ _ _ _ _ _ _ _ _ _ _ _ _ _ _ _ _ _ _ _ _ _ _ _ _ _ _ _ _ _ _ _ _ _ _ _ _ _ _ (((Touch.drew [] W1).trans hRwz (by simp)).below (Nat.le_refl _) (by simp))
#print axioms nil_reg9
end Go.Proofs.Ytokehhegomiciaa
