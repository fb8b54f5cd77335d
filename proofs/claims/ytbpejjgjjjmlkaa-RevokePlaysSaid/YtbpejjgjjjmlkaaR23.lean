/- The law RevokePlays: its regions. -/
import Derived.Test.YtbpejjgjjjmlkaaR21
set_option linter.unusedVariables false
set_option linter.unusedSimpArgs false
namespace Go.Proofs.Ytbpejjgjjjmlkaa
open Go.RowKit

noncomputable def plays14Code : Code := regById 14 (codesOf (Try.f5.body.getD .skip))
set_option maxRecDepth 100000 in
set_option maxHeartbeats 4000000 in
theorem plays14_reg (B R : Nat) (y : Addr) (n cap i s sq x : Nat) (b bl : Int) (ra rb ok : Bool) (Ga Gb : List Int) (W1 : World) (HLA : Hid (Ga.length ≤ 100000)) (HLB : Hid (Gb.length ≤ 100000)) (HP1 : Hid (W1.cell? ((y.add (i * 3)).add 1) = some (.int .i64 b))) (HP2 : Hid (W1.cell? ((y.add (i * 3)).add 2) = some (.int .u32 (s : Int)))) (HPL : Hid (y.block < W1.heap.size)) (hi : i < n)
    (HRA : Hid (∀ wq, Touch [] W1 wq → Calls Try.prog 11 #[.pointer (some ⟨B, 0, none⟩), .int .i64 bl, .int .u32 (sq : Int)] wq fun e w' => e = .returned (.bool ra) ∧ Grow wq w')) (HSA : Hid (∀ wq, Touch [] W1 wq → Calls Try.prog 17 #[.pointer (some ⟨R, 0, none⟩), .int .i64 bl, .int .u32 (sq : Int)] wq fun e w' => e = .returned (.bool ra) ∧ Grow wq w')) (HRB : Hid (∀ wq, Touch [] W1 wq → Calls Try.prog 11 #[.pointer (some ⟨B, 0, none⟩), .int .i64 b, .int .u32 (sq : Int)] wq fun e w' => e = .returned (.bool rb) ∧ Grow wq w')) (HSB : Hid (∀ wq, Touch [] W1 wq → Calls Try.prog 17 #[.pointer (some ⟨R, 0, none⟩), .int .i64 b, .int .u32 (sq : Int)] wq fun e w' => e = .returned (.bool rb) ∧ Grow wq w')) (HOA : Hid (∀ wq, Touch [] W1 wq → Calls Try.prog 13 #[.pointer (some ⟨B, 0, none⟩), .int .u32 (sq : Int)] wq fun e w' => ∃ v, e = .returned v ∧ IRow w' v Ga ∧ Grow wq w')) (HUA : Hid (∀ wq, Touch [] W1 wq → Calls Try.prog 19 #[.pointer (some ⟨R, 0, none⟩), .int .u32 (sq : Int)] wq fun e w' => ∃ v, e = .returned v ∧ IRow w' v Ga ∧ Grow wq w')) (HOB : Hid (∀ wq, Touch [] W1 wq → Calls Try.prog 13 #[.pointer (some ⟨B, 0, none⟩), .int .u32 (s : Int)] wq fun e w' => ∃ v, e = .returned v ∧ IRow w' v Gb ∧ Grow wq w')) (HUB : Hid (∀ wq, Touch [] W1 wq → Calls Try.prog 19 #[.pointer (some ⟨R, 0, none⟩), .int .u32 (s : Int)] wq fun e w' => ∃ v, e = .returned v ∧ IRow w' v Gb ∧ Grow wq w'))
    (c3 c4 c5 c6 c14 c15 c16 c17 c18 c19 c20 c21 c22 c23 c24 c25 c26 c27 c28 c29 c30 c31 c32 c33 c34 c35 c36 c37 c38 c39 c40 c41 c42 c43 c44 c45 c46 c47 c48 c49 c50 c51 c52 c53 c54 c55 c56 c57 c58 c59 c60 c61 c62 c63 c64 c65 c66 c67 c68 c69 c70 c71 c72 c73 c74 c75 c76 c77 c78 c79 c80 c81 c82 c83 c84 c85 c86 c87 c88 c89 c90 c91 c92 c93 c94 c95 c96 c97 c98 c99 c100 c101 c102 c103 c104 c105 c106 c107 c108 c109 c110 c111 c112 c113 c114 c115 c116 c117 c118 c119 c120 c121 c122 c123 : Value) (Q : Exit → Act → World → Prop) (HK : Hid (∀ u58 u59 u60 u61 u62 u63 u64 u65 u66 u67 u68 u69 u70 u71 u72 u73 u74 u75 u76 u77 u78 u79 u80 u81 u82 u83 u84 u85 u86 u87 u88 u89 u90 u91 u92 u93 u94 u95 u96 u97 u98 u99 u100 u101 u102 u103 u104 u105 u106 u107 u108 u109 u110 u111 u112 u113 u114 u115 u116 u117 u118 u119 u120 u121 u122 wz, Touch [] W1 wz → Q .normal ⟨(.slice (some y) n cap :: .int .i64 bl :: .int .u32 (sq : Int) :: c3 :: c4 :: c5 :: c6 :: .pointer (some ⟨B, 0, none⟩) :: .pointer (some ⟨R, 0, none⟩) :: .int .i64 (i : Int) :: .int .u32 (x : Int) :: .bool ok :: .int .u32 (x : Int) :: .bool ok :: c14 :: c15 :: c16 :: c17 :: c18 :: c19 :: c20 :: c21 :: c22 :: c23 :: c24 :: c25 :: c26 :: c27 :: c28 :: c29 :: c30 :: c31 :: c32 :: c33 :: c34 :: c35 :: c36 :: c37 :: c38 :: c39 :: c40 :: c41 :: c42 :: c43 :: c44 :: c45 :: c46 :: c47 :: c48 :: c49 :: c50 :: c51 :: c52 :: c53 :: c54 :: c55 :: c56 :: c57 :: u58 :: u59 :: u60 :: u61 :: u62 :: u63 :: u64 :: u65 :: u66 :: u67 :: u68 :: u69 :: u70 :: u71 :: u72 :: u73 :: u74 :: u75 :: u76 :: u77 :: u78 :: u79 :: u80 :: u81 :: u82 :: u83 :: u84 :: u85 :: u86 :: u87 :: u88 :: u89 :: u90 :: u91 :: u92 :: u93 :: u94 :: u95 :: u96 :: u97 :: u98 :: u99 :: u100 :: u101 :: u102 :: u103 :: u104 :: u105 :: u106 :: u107 :: u108 :: u109 :: u110 :: u111 :: u112 :: u113 :: u114 :: u115 :: u116 :: u117 :: u118 :: u119 :: u120 :: u121 :: u122 :: .bool false :: []).toArray, []⟩ wz)) : plays14Code.wp Try.prog Q ⟨(.slice (some y) n cap :: .int .i64 bl :: .int .u32 (sq : Int) :: c3 :: c4 :: c5 :: c6 :: .pointer (some ⟨B, 0, none⟩) :: .pointer (some ⟨R, 0, none⟩) :: .int .i64 (i : Int) :: .int .u32 (x : Int) :: .bool ok :: .int .u32 (x : Int) :: .bool ok :: c14 :: c15 :: c16 :: c17 :: c18 :: c19 :: c20 :: c21 :: c22 :: c23 :: c24 :: c25 :: c26 :: c27 :: c28 :: c29 :: c30 :: c31 :: c32 :: c33 :: c34 :: c35 :: c36 :: c37 :: c38 :: c39 :: c40 :: c41 :: c42 :: c43 :: c44 :: c45 :: c46 :: c47 :: c48 :: c49 :: c50 :: c51 :: c52 :: c53 :: c54 :: c55 :: c56 :: c57 :: c58 :: c59 :: c60 :: c61 :: c62 :: c63 :: c64 :: c65 :: c66 :: c67 :: c68 :: c69 :: c70 :: c71 :: c72 :: c73 :: c74 :: c75 :: c76 :: c77 :: c78 :: c79 :: c80 :: c81 :: c82 :: c83 :: c84 :: c85 :: c86 :: c87 :: c88 :: c89 :: c90 :: c91 :: c92 :: c93 :: c94 :: c95 :: c96 :: c97 :: c98 :: c99 :: c100 :: c101 :: c102 :: c103 :: c104 :: c105 :: c106 :: c107 :: c108 :: c109 :: c110 :: c111 :: c112 :: c113 :: c114 :: c115 :: c116 :: c117 :: c118 :: c119 :: c120 :: c121 :: c122 :: c123 :: []).toArray, []⟩ W1 := by
  have HB0 := Lib.hid (show (0 : Int) ≤ (i : Int) by omega)
  have HB1 := Lib.hid (show (i : Int) < (n : Int) by omega)
  conv => arg 2; whnf
  refine wp_region_facts (by kernel_rfl) [[], [], [(0, some 58), (1, some 59)], [(2, some 60)], [(3, some 61)], [(3, some 61)], [(3, some 61), (4, some 62), (5, some 63)], [(3, some 61), (6, some 64)], [(3, some 61), (7, some 65)], [(8, some 66)], [(8, some 66)], [(8, some 66)], [(8, some 66), (9, some 67), (10, some 68), (11, some 69)], [(8, some 66)], [(8, some 66)], [(8, some 66)], [(8, some 66), (12, some 70), (13, some 71), (14, some 72), (15, some 73)], [(8, some 66), (12, some 70), (16, some 74)], [(8, some 66), (17, some 75)], [(16, some 74), (18, some 76)], [(19, some 77)], [(19, some 77)], [(19, some 77)], [(19, some 77), (21, some 79), (22, some 80)], [(19, some 77), (23, some 81)], [(19, some 77), (24, some 82)], [(19, some 77)], [(19, some 77), (20, some 78), (25, some 83), (26, some 84)], [(19, some 77)], [(19, some 77)], [(19, some 77)], [(19, some 77), (29, some 87), (30, some 88)], [(19, some 77), (31, some 89)], [(19, some 77), (32, some 90)], [(19, some 77)], [(19, some 77), (27, some 85), (28, some 86), (33, some 91), (34, some 92)], [(19, some 77), (27, some 85), (35, some 93)], [(19, some 77), (36, some 94)], [(35, some 93), (37, some 95)], [(38, some 96)], [(38, some 96)], [(38, some 96), (39, some 97), (40, some 98)], [(38, some 96)], [(38, some 96)], [(38, some 96), (41, some 99), (42, some 100), (43, some 101)], [(38, some 96), (41, some 99), (44, some 102)], [(38, some 96), (45, some 103)], [(38, some 96), (46, some 104)], [(45, some 103), (47, some 105)], [(48, some 106)], [(48, some 106)], [(48, some 106)], [(48, some 106), (50, some 108), (51, some 109)], [(48, some 106), (52, some 110)], [(48, some 106), (53, some 111)], [(48, some 106), (49, some 107), (54, some 112)], [(48, some 106)], [(48, some 106)], [(48, some 106)], [(48, some 106), (57, some 115), (58, some 116)], [(48, some 106), (59, some 117)], [(48, some 106), (60, some 118)], [(48, some 106), (55, some 113), (56, some 114), (61, some 119)], [(48, some 106), (55, some 113), (62, some 120)], [(48, some 106), (63, some 121)], [(48, some 106), (64, some 122)]] [(0, some 58), (1, some 59), (2, some 60), (3, some 61), (4, some 62), (5, some 63), (6, some 64), (7, some 65), (8, some 66), (9, some 67), (10, some 68), (11, some 69), (12, some 70), (13, some 71), (14, some 72), (15, some 73), (16, some 74), (17, some 75), (18, some 76), (19, some 77), (20, some 78), (21, some 79), (22, some 80), (23, some 81), (24, some 82), (25, some 83), (26, some 84), (27, some 85), (28, some 86), (29, some 87), (30, some 88), (31, some 89), (32, some 90), (33, some 91), (34, some 92), (35, some 93), (36, some 94), (37, some 95), (38, some 96), (39, some 97), (40, some 98), (41, some 99), (42, some 100), (43, some 101), (44, some 102), (45, some 103), (46, some 104), (47, some 105), (48, some 106), (49, some 107), (50, some 108), (51, some 109), (52, some 110), (53, some 111), (54, some 112), (55, some 113), (56, some 114), (57, some 115), (58, some 116), (59, some 117), (60, some 118), (61, some 119), (62, some 120), (63, some 121), (64, some 122), (65, some 123)] (by kernel_rfl) (by kernel_rfl) (by kernel_rfl) (Touch []) (Touch.refl []) (fun _ _ _ h h' => h.trans h' (fun i hi => .inl hi)) [Is (Value.int .u32 (x : Int)), Is (Value.int .u32 (x : Int)), Is (Value.bool false), Is (Value.bool false), Is (Value.bool ok), Is (Value.bool ok), Is (Value.bool false), Is (Value.bool false), Is (Value.bool false), Is (Value.pointer (some ⟨B, 0, none⟩)), Is (Value.int .i64 bl), Is (Value.int .u32 (sq : Int)), Is (Value.bool ra), Is (Value.pointer (some ⟨R, 0, none⟩)), Is (Value.int .i64 bl), Is (Value.int .u32 (sq : Int)), Is (Value.bool ra), Is (Value.bool false), Is (Value.bool false), Is (Value.bool false), Is (Value.pointer (some ⟨B, 0, none⟩)), Is (Value.slice (some y) n cap), Is (Value.int .i64 (i : Int)), Is (Value.pointer (some (y.add (i * 3)))), Is (Value.pointer (some ((y.add (i * 3)).add 1))), Is (Value.int .i64 b), Is (Value.int .u32 (sq : Int)), Is (Value.bool rb), Is (Value.pointer (some ⟨R, 0, none⟩)), Is (Value.slice (some y) n cap), Is (Value.int .i64 (i : Int)), Is (Value.pointer (some (y.add (i * 3)))), Is (Value.pointer (some ((y.add (i * 3)).add 1))), Is (Value.int .i64 b), Is (Value.int .u32 (sq : Int)), Is (Value.bool rb), Is (Value.bool false), Is (Value.bool false), Is (Value.bool false), Is (Value.pointer (some ⟨B, 0, none⟩)), Is (Value.int .u32 (sq : Int)), (fun v wx => IRow wx v Ga), Is (Value.pointer (some ⟨R, 0, none⟩)), Is (Value.int .u32 (sq : Int)), (fun v wx => IRow wx v Ga), Is (Value.bool true), Is (Value.bool false), Is (Value.bool false), Is (Value.bool false), Is (Value.pointer (some ⟨B, 0, none⟩)), Is (Value.slice (some y) n cap), Is (Value.int .i64 (i : Int)), Is (Value.pointer (some (y.add (i * 3)))), Is (Value.pointer (some ((y.add (i * 3)).add 2))), Is (Value.int .u32 (s : Int)), (fun v wx => IRow wx v Gb), Is (Value.pointer (some ⟨R, 0, none⟩)), Is (Value.slice (some y) n cap), Is (Value.int .i64 (i : Int)), Is (Value.pointer (some (y.add (i * 3)))), Is (Value.pointer (some ((y.add (i * 3)).add 2))), Is (Value.int .u32 (s : Int)), (fun v wx => IRow wx v Gb), Is (Value.bool true), Is (Value.bool false), Is (Value.bool false)] rfl ⟨is_stab _ _, is_stab _ _, is_stab _ _, is_stab _ _, is_stab _ _, is_stab _ _, is_stab _ _, is_stab _ _, is_stab _ _, is_stab _ _, is_stab _ _, is_stab _ _, is_stab _ _, is_stab _ _, is_stab _ _, is_stab _ _, is_stab _ _, is_stab _ _, is_stab _ _, is_stab _ _, is_stab _ _, is_stab _ _, is_stab _ _, is_stab _ _, is_stab _ _, is_stab _ _, is_stab _ _, is_stab _ _, is_stab _ _, is_stab _ _, is_stab _ _, is_stab _ _, is_stab _ _, is_stab _ _, is_stab _ _, is_stab _ _, is_stab _ _, is_stab _ _, is_stab _ _, is_stab _ _, is_stab _ _, (fun v w w' h1 h2 => Row.kept h2 h1 (by simp)), is_stab _ _, is_stab _ _, (fun v w w' h1 h2 => Row.kept h2 h1 (by simp)), is_stab _ _, is_stab _ _, is_stab _ _, is_stab _ _, is_stab _ _, is_stab _ _, is_stab _ _, is_stab _ _, is_stab _ _, is_stab _ _, (fun v w w' h1 h2 => Row.kept h2 h1 (by simp)), is_stab _ _, is_stab _ _, is_stab _ _, is_stab _ _, is_stab _ _, is_stab _ _, (fun v w w' h1 h2 => Row.kept h2 h1 (by simp)), is_stab _ _, is_stab _ _, is_stab _ _, trivial⟩ ⟨?o0, ?o1, ?o2, ?o3, ?o4, ?o5, ?o6, ?o7, ?o8, ?o9, ?o10, ?o11, ?o12, ?o13, ?o14, ?o15, ?o16, ?o17, ?o18, ?o19, ?o20, ?o21, ?o22, ?o23, ?o24, ?o25, ?o26, ?o27, ?o28, ?o29, ?o30, ?o31, ?o32, ?o33, ?o34, ?o35, ?o36, ?o37, ?o38, ?o39, ?o40, ?o41, ?o42, ?o43, ?o44, ?o45, ?o46, ?o47, ?o48, ?o49, ?o50, ?o51, ?o52, ?o53, ?o54, ?o55, ?o56, ?o57, ?o58, ?o59, ?o60, ?o61, ?o62, ?o63, ?o64, ?o65, trivial⟩ ?_
  case o0 =>
    intro vals wq hRq hpq
    simp only [List.getD_cons_zero, List.getD_cons_succ, canonP]
    simp only [Oper.gives]
    go_simp
    exact ⟨is_mk _ _, (Touch.refl []) _⟩
  case o1 =>
    intro vals wq hRq hpq
    simp only [List.getD_cons_zero, List.getD_cons_succ, canonP]
    simp only [Oper.gives]
    go_simp
    exact ⟨is_mk _ _, (Touch.refl []) _⟩
  case o2 =>
    intro vals wq hRq hpq
    simp only [factsP, List.getD_cons_zero, List.getD_cons_succ] at hpq
    have f0 := hpq.1
    replace hpq := hpq.2
    have f1 := hpq.1
    replace hpq := hpq.2
    clear hpq
    replace f0 : vals 0 = _ := f0
    replace f1 : vals 1 = _ := f1
    simp only [List.getD_cons_zero, List.getD_cons_succ, canonP, f0, f1]
    clear f0 f1
    simp only [Oper.gives]
    go_simp
    exact ⟨is_mk _ _, (Touch.refl []) _⟩
  case o3 =>
    intro vals wq hRq hpq
    simp only [factsP, List.getD_cons_zero, List.getD_cons_succ] at hpq
    have f2 := hpq.1
    replace hpq := hpq.2
    clear hpq
    replace f2 : vals 2 = _ := f2
    simp only [List.getD_cons_zero, List.getD_cons_succ, canonP, f2]
    clear f2
    simp only [Oper.gives]
    go_simp
    exact ⟨is_mk _ _, (Touch.refl []) _⟩
  case o4 =>
    intro vals wq hRq hpq
    simp only [factsP, List.getD_cons_zero, List.getD_cons_succ] at hpq
    have f3 := hpq.1
    replace hpq := hpq.2
    clear hpq
    replace f3 : vals 3 = _ := f3
    simp only [List.getD_cons_zero, List.getD_cons_succ, canonP, f3]
    clear f3
    simp only [Oper.gives]
    go_simp
    exact ⟨is_mk _ _, (Touch.refl []) _⟩
  case o5 =>
    intro vals wq hRq hpq
    simp only [factsP, List.getD_cons_zero, List.getD_cons_succ] at hpq
    have f3 := hpq.1
    replace hpq := hpq.2
    clear hpq
    replace f3 : vals 3 = _ := f3
    simp only [List.getD_cons_zero, List.getD_cons_succ, canonP, f3]
    clear f3
    simp only [Oper.gives]
    go_simp
    exact ⟨is_mk _ _, (Touch.refl []) _⟩
  case o6 =>
    intro vals wq hRq hpq
    simp only [factsP, List.getD_cons_zero, List.getD_cons_succ] at hpq
    have f3 := hpq.1
    replace hpq := hpq.2
    have f4 := hpq.1
    replace hpq := hpq.2
    have f5 := hpq.1
    replace hpq := hpq.2
    clear hpq
    replace f3 : vals 3 = _ := f3
    replace f4 : vals 4 = _ := f4
    replace f5 : vals 5 = _ := f5
    simp only [List.getD_cons_zero, List.getD_cons_succ, canonP, f3, f4, f5]
    clear f3 f4 f5
    simp only [Oper.gives]
    go_simp
    exact ⟨is_mk _ _, (Touch.refl []) _⟩
  case o7 =>
    intro vals wq hRq hpq
    simp only [factsP, List.getD_cons_zero, List.getD_cons_succ] at hpq
    have f3 := hpq.1
    replace hpq := hpq.2
    have f6 := hpq.1
    replace hpq := hpq.2
    clear hpq
    replace f3 : vals 3 = _ := f3
    replace f6 : vals 6 = _ := f6
    simp only [List.getD_cons_zero, List.getD_cons_succ, canonP, f3, f6]
    clear f3 f6
    simp only [Oper.gives]
    go_simp
    exact ⟨is_mk _ _, (Touch.refl []) _⟩
  case o8 =>
    intro vals wq hRq hpq
    simp only [factsP, List.getD_cons_zero, List.getD_cons_succ] at hpq
    have f3 := hpq.1
    replace hpq := hpq.2
    have f7 := hpq.1
    replace hpq := hpq.2
    clear hpq
    replace f3 : vals 3 = _ := f3
    replace f7 : vals 7 = _ := f7
    simp only [List.getD_cons_zero, List.getD_cons_succ, canonP, f3, f7]
    clear f3 f7
    simp only [Oper.gives]
    go_simp
    exact ⟨is_mk _ _, (Touch.refl []) _⟩
  case o9 =>
    intro vals wq hRq hpq
    simp only [factsP, List.getD_cons_zero, List.getD_cons_succ] at hpq
    have f8 := hpq.1
    replace hpq := hpq.2
    clear hpq
    replace f8 : vals 8 = _ := f8
    simp only [List.getD_cons_zero, List.getD_cons_succ, canonP, f8]
    clear f8
    simp only [Oper.gives]
    go_simp
    exact ⟨is_mk _ _, (Touch.refl []) _⟩
  case o10 =>
    intro vals wq hRq hpq
    simp only [factsP, List.getD_cons_zero, List.getD_cons_succ] at hpq
    have f8 := hpq.1
    replace hpq := hpq.2
    clear hpq
    replace f8 : vals 8 = _ := f8
    simp only [List.getD_cons_zero, List.getD_cons_succ, canonP, f8]
    clear f8
    simp only [Oper.gives]
    go_simp
    exact ⟨is_mk _ _, (Touch.refl []) _⟩
  case o11 =>
    intro vals wq hRq hpq
    simp only [factsP, List.getD_cons_zero, List.getD_cons_succ] at hpq
    have f8 := hpq.1
    replace hpq := hpq.2
    clear hpq
    replace f8 : vals 8 = _ := f8
    simp only [List.getD_cons_zero, List.getD_cons_succ, canonP, f8]
    clear f8
    simp only [Oper.gives]
    go_simp
    exact ⟨is_mk _ _, (Touch.refl []) _⟩
  case o12 =>
    intro vals wq hRq hpq
    simp only [factsP, List.getD_cons_zero, List.getD_cons_succ] at hpq
    have f8 := hpq.1
    replace hpq := hpq.2
    have f9 := hpq.1
    replace hpq := hpq.2
    have f10 := hpq.1
    replace hpq := hpq.2
    have f11 := hpq.1
    replace hpq := hpq.2
    clear hpq
    replace f8 : vals 8 = _ := f8
    replace f9 : vals 9 = _ := f9
    replace f10 : vals 10 = _ := f10
    replace f11 : vals 11 = _ := f11
    simp only [List.getD_cons_zero, List.getD_cons_succ, canonP, f8, f9, f10, f11]
    clear f8 f9 f10 f11
    simp only [Oper.gives]
    go_simp
    exact (HRA.out wq ((Touch.drew [] W1).trans hRq (fun i hi => .inl hi))).mono fun e w' ⟨he, hg⟩ => ⟨_, he, is_mk _ _, Touch.of_below hg⟩
  case o13 =>
    intro vals wq hRq hpq
    simp only [factsP, List.getD_cons_zero, List.getD_cons_succ] at hpq
    have f8 := hpq.1
    replace hpq := hpq.2
    clear hpq
    replace f8 : vals 8 = _ := f8
    simp only [List.getD_cons_zero, List.getD_cons_succ, canonP, f8]
    clear f8
    simp only [Oper.gives]
    go_simp
    exact ⟨is_mk _ _, (Touch.refl []) _⟩
  case o14 =>
    intro vals wq hRq hpq
    simp only [factsP, List.getD_cons_zero, List.getD_cons_succ] at hpq
    have f8 := hpq.1
    replace hpq := hpq.2
    clear hpq
    replace f8 : vals 8 = _ := f8
    simp only [List.getD_cons_zero, List.getD_cons_succ, canonP, f8]
    clear f8
    simp only [Oper.gives]
    go_simp
    exact ⟨is_mk _ _, (Touch.refl []) _⟩
  case o15 =>
    intro vals wq hRq hpq
    simp only [factsP, List.getD_cons_zero, List.getD_cons_succ] at hpq
    have f8 := hpq.1
    replace hpq := hpq.2
    clear hpq
    replace f8 : vals 8 = _ := f8
    simp only [List.getD_cons_zero, List.getD_cons_succ, canonP, f8]
    clear f8
    simp only [Oper.gives]
    go_simp
    exact ⟨is_mk _ _, (Touch.refl []) _⟩
  case o16 =>
    intro vals wq hRq hpq
    simp only [factsP, List.getD_cons_zero, List.getD_cons_succ] at hpq
    have f8 := hpq.1
    replace hpq := hpq.2
    have f12 := hpq.1
    replace hpq := hpq.2
    have f13 := hpq.1
    replace hpq := hpq.2
    have f14 := hpq.1
    replace hpq := hpq.2
    have f15 := hpq.1
    replace hpq := hpq.2
    clear hpq
    replace f8 : vals 8 = _ := f8
    replace f12 : vals 12 = _ := f12
    replace f13 : vals 13 = _ := f13
    replace f14 : vals 14 = _ := f14
    replace f15 : vals 15 = _ := f15
    simp only [List.getD_cons_zero, List.getD_cons_succ, canonP, f8, f12, f13, f14, f15]
    clear f8 f12 f13 f14 f15
    simp only [Oper.gives]
    go_simp
    exact (HSA.out wq ((Touch.drew [] W1).trans hRq (fun i hi => .inl hi))).mono fun e w' ⟨he, hg⟩ => ⟨_, he, is_mk _ _, Touch.of_below hg⟩
  case o17 =>
    intro vals wq hRq hpq
    simp only [factsP, List.getD_cons_zero, List.getD_cons_succ] at hpq
    have f8 := hpq.1
    replace hpq := hpq.2
    have f12 := hpq.1
    replace hpq := hpq.2
    have f16 := hpq.1
    replace hpq := hpq.2
    clear hpq
    replace f8 : vals 8 = _ := f8
    replace f12 : vals 12 = _ := f12
    replace f16 : vals 16 = _ := f16
    simp only [List.getD_cons_zero, List.getD_cons_succ, canonP, f8, f12, f16]
    clear f8 f12 f16
    simp only [Oper.gives]
    go_simp
    exact ⟨is_mk _ _, (Touch.refl []) _⟩
  case o18 =>
    intro vals wq hRq hpq
    simp only [factsP, List.getD_cons_zero, List.getD_cons_succ] at hpq
    have f8 := hpq.1
    replace hpq := hpq.2
    have f17 := hpq.1
    replace hpq := hpq.2
    clear hpq
    replace f8 : vals 8 = _ := f8
    replace f17 : vals 17 = _ := f17
    simp only [List.getD_cons_zero, List.getD_cons_succ, canonP, f8, f17]
    clear f8 f17
    simp only [Oper.gives]
    go_simp
    exact ⟨is_mk _ _, (Touch.refl []) _⟩
  case o19 =>
    intro vals wq hRq hpq
    simp only [factsP, List.getD_cons_zero, List.getD_cons_succ] at hpq
    have f16 := hpq.1
    replace hpq := hpq.2
    have f18 := hpq.1
    replace hpq := hpq.2
    clear hpq
    replace f16 : vals 16 = _ := f16
    replace f18 : vals 18 = _ := f18
    simp only [List.getD_cons_zero, List.getD_cons_succ, canonP, f16, f18]
    clear f16 f18
    simp only [Oper.gives]
    go_simp
    exact ⟨is_mk _ _, (Touch.refl []) _⟩
  case o20 =>
    intro vals wq hRq hpq
    simp only [factsP, List.getD_cons_zero, List.getD_cons_succ] at hpq
    have f19 := hpq.1
    replace hpq := hpq.2
    clear hpq
    replace f19 : vals 19 = _ := f19
    simp only [List.getD_cons_zero, List.getD_cons_succ, canonP, f19]
    clear f19
    simp only [Oper.gives]
    go_simp
    exact ⟨is_mk _ _, (Touch.refl []) _⟩
  case o21 =>
    intro vals wq hRq hpq
    simp only [factsP, List.getD_cons_zero, List.getD_cons_succ] at hpq
    have f19 := hpq.1
    replace hpq := hpq.2
    clear hpq
    replace f19 : vals 19 = _ := f19
    simp only [List.getD_cons_zero, List.getD_cons_succ, canonP, f19]
    clear f19
    simp only [Oper.gives]
    go_simp
    exact ⟨is_mk _ _, (Touch.refl []) _⟩
  case o22 =>
    intro vals wq hRq hpq
    simp only [factsP, List.getD_cons_zero, List.getD_cons_succ] at hpq
    have f19 := hpq.1
    replace hpq := hpq.2
    clear hpq
    replace f19 : vals 19 = _ := f19
    simp only [List.getD_cons_zero, List.getD_cons_succ, canonP, f19]
    clear f19
    simp only [Oper.gives]
    go_simp
    exact ⟨is_mk _ _, (Touch.refl []) _⟩
  case o23 =>
    intro vals wq hRq hpq
    simp only [factsP, List.getD_cons_zero, List.getD_cons_succ] at hpq
    have f19 := hpq.1
    replace hpq := hpq.2
    have f21 := hpq.1
    replace hpq := hpq.2
    have f22 := hpq.1
    replace hpq := hpq.2
    clear hpq
    replace f19 : vals 19 = _ := f19
    replace f21 : vals 21 = _ := f21
    replace f22 : vals 22 = _ := f22
    simp only [List.getD_cons_zero, List.getD_cons_succ, canonP, f19, f21, f22]
    clear f19 f21 f22
    have b0 := HB0.out
    have b1 := HB1.out
    simp only [Oper.gives]
    go_simp
    first | exact ⟨is_mk _ _, Touch.refl _ _⟩ | (refine ⟨is_mk _ _, Touch.refl _ _, ?_⟩; repeat' first | assumption | exact ⟨_, by assumption⟩ | refine And.intro ?_ ?_ | intro _)
  case o24 =>
    intro vals wq hRq hpq
    simp only [factsP, List.getD_cons_zero, List.getD_cons_succ] at hpq
    have f19 := hpq.1
    replace hpq := hpq.2
    have f23 := hpq.1
    replace hpq := hpq.2
    clear hpq
    replace f19 : vals 19 = _ := f19
    replace f23 : vals 23 = _ := f23
    simp only [List.getD_cons_zero, List.getD_cons_succ, canonP, f19, f23]
    clear f19 f23
    simp only [Oper.gives]
    go_simp
    first | exact ⟨is_mk _ _, Touch.refl _ _⟩ | (refine ⟨is_mk _ _, Touch.refl _ _, ?_⟩; repeat' first | assumption | exact ⟨_, by assumption⟩ | refine And.intro ?_ ?_ | intro _)
  case o25 =>
    intro vals wq hRq hpq
    simp only [factsP, List.getD_cons_zero, List.getD_cons_succ] at hpq
    have f19 := hpq.1
    replace hpq := hpq.2
    have f24 := hpq.1
    replace hpq := hpq.2
    clear hpq
    replace f19 : vals 19 = _ := f19
    replace f24 : vals 24 = _ := f24
    simp only [List.getD_cons_zero, List.getD_cons_succ, canonP, f19, f24]
    clear f19 f24
    have hcc1 : wq.cell? ⟨(y.add (i * 3)).block, (y.add (i * 3)).off + 1, none⟩ = some (.int .i64 b) := (hRq.cell (a := (y.add (i * 3)).add 1) (by simp only [add_block]; exact HPL.out) (by simp only [add_block]; simp)).trans HP1.out
    simp only [Oper.gives]
    go_simp
    first | exact ⟨is_mk _ _, Touch.refl _ _⟩ | (refine ⟨is_mk _ _, Touch.refl _ _, ?_⟩; repeat' first | assumption | exact ⟨_, by assumption⟩ | refine And.intro ?_ ?_ | intro _)
  case o26 =>
    intro vals wq hRq hpq
    simp only [factsP, List.getD_cons_zero, List.getD_cons_succ] at hpq
    have f19 := hpq.1
    replace hpq := hpq.2
    clear hpq
    replace f19 : vals 19 = _ := f19
    simp only [List.getD_cons_zero, List.getD_cons_succ, canonP, f19]
    clear f19
    simp only [Oper.gives]
    go_simp
    exact ⟨is_mk _ _, (Touch.refl []) _⟩
  case o27 =>
    intro vals wq hRq hpq
    simp only [factsP, List.getD_cons_zero, List.getD_cons_succ] at hpq
    have f19 := hpq.1
    replace hpq := hpq.2
    have f20 := hpq.1
    replace hpq := hpq.2
    have f25 := hpq.1
    replace hpq := hpq.2
    have f26 := hpq.1
    replace hpq := hpq.2
    clear hpq
    replace f19 : vals 19 = _ := f19
    replace f20 : vals 20 = _ := f20
    replace f25 : vals 25 = _ := f25
    replace f26 : vals 26 = _ := f26
    simp only [List.getD_cons_zero, List.getD_cons_succ, canonP, f19, f20, f25, f26]
    clear f19 f20 f25 f26
    simp only [Oper.gives]
    go_simp
    exact (HRB.out wq ((Touch.drew [] W1).trans hRq (fun i hi => .inl hi))).mono fun e w' ⟨he, hg⟩ => ⟨_, he, is_mk _ _, Touch.of_below hg⟩
  case o28 =>
    intro vals wq hRq hpq
    simp only [factsP, List.getD_cons_zero, List.getD_cons_succ] at hpq
    have f19 := hpq.1
    replace hpq := hpq.2
    clear hpq
    replace f19 : vals 19 = _ := f19
    simp only [List.getD_cons_zero, List.getD_cons_succ, canonP, f19]
    clear f19
    simp only [Oper.gives]
    go_simp
    exact ⟨is_mk _ _, (Touch.refl []) _⟩
  case o29 =>
    intro vals wq hRq hpq
    simp only [factsP, List.getD_cons_zero, List.getD_cons_succ] at hpq
    have f19 := hpq.1
    replace hpq := hpq.2
    clear hpq
    replace f19 : vals 19 = _ := f19
    simp only [List.getD_cons_zero, List.getD_cons_succ, canonP, f19]
    clear f19
    simp only [Oper.gives]
    go_simp
    exact ⟨is_mk _ _, (Touch.refl []) _⟩
  case o30 =>
    intro vals wq hRq hpq
    simp only [factsP, List.getD_cons_zero, List.getD_cons_succ] at hpq
    have f19 := hpq.1
    replace hpq := hpq.2
    clear hpq
    replace f19 : vals 19 = _ := f19
    simp only [List.getD_cons_zero, List.getD_cons_succ, canonP, f19]
    clear f19
    simp only [Oper.gives]
    go_simp
    exact ⟨is_mk _ _, (Touch.refl []) _⟩
  case o31 =>
    intro vals wq hRq hpq
    simp only [factsP, List.getD_cons_zero, List.getD_cons_succ] at hpq
    have f19 := hpq.1
    replace hpq := hpq.2
    have f29 := hpq.1
    replace hpq := hpq.2
    have f30 := hpq.1
    replace hpq := hpq.2
    clear hpq
    replace f19 : vals 19 = _ := f19
    replace f29 : vals 29 = _ := f29
    replace f30 : vals 30 = _ := f30
    simp only [List.getD_cons_zero, List.getD_cons_succ, canonP, f19, f29, f30]
    clear f19 f29 f30
    have b0 := HB0.out
    have b1 := HB1.out
    simp only [Oper.gives]
    go_simp
    first | exact ⟨is_mk _ _, Touch.refl _ _⟩ | (refine ⟨is_mk _ _, Touch.refl _ _, ?_⟩; repeat' first | assumption | exact ⟨_, by assumption⟩ | refine And.intro ?_ ?_ | intro _)
  case o32 =>
    intro vals wq hRq hpq
    simp only [factsP, List.getD_cons_zero, List.getD_cons_succ] at hpq
    have f19 := hpq.1
    replace hpq := hpq.2
    have f31 := hpq.1
    replace hpq := hpq.2
    clear hpq
    replace f19 : vals 19 = _ := f19
    replace f31 : vals 31 = _ := f31
    simp only [List.getD_cons_zero, List.getD_cons_succ, canonP, f19, f31]
    clear f19 f31
    simp only [Oper.gives]
    go_simp
    first | exact ⟨is_mk _ _, Touch.refl _ _⟩ | (refine ⟨is_mk _ _, Touch.refl _ _, ?_⟩; repeat' first | assumption | exact ⟨_, by assumption⟩ | refine And.intro ?_ ?_ | intro _)
  case o33 =>
    intro vals wq hRq hpq
    simp only [factsP, List.getD_cons_zero, List.getD_cons_succ] at hpq
    have f19 := hpq.1
    replace hpq := hpq.2
    have f32 := hpq.1
    replace hpq := hpq.2
    clear hpq
    replace f19 : vals 19 = _ := f19
    replace f32 : vals 32 = _ := f32
    simp only [List.getD_cons_zero, List.getD_cons_succ, canonP, f19, f32]
    clear f19 f32
    have hcc1 : wq.cell? ⟨(y.add (i * 3)).block, (y.add (i * 3)).off + 1, none⟩ = some (.int .i64 b) := (hRq.cell (a := (y.add (i * 3)).add 1) (by simp only [add_block]; exact HPL.out) (by simp only [add_block]; simp)).trans HP1.out
    simp only [Oper.gives]
    go_simp
    first | exact ⟨is_mk _ _, Touch.refl _ _⟩ | (refine ⟨is_mk _ _, Touch.refl _ _, ?_⟩; repeat' first | assumption | exact ⟨_, by assumption⟩ | refine And.intro ?_ ?_ | intro _)
  case o34 =>
    intro vals wq hRq hpq
    simp only [factsP, List.getD_cons_zero, List.getD_cons_succ] at hpq
    have f19 := hpq.1
    replace hpq := hpq.2
    clear hpq
    replace f19 : vals 19 = _ := f19
    simp only [List.getD_cons_zero, List.getD_cons_succ, canonP, f19]
    clear f19
    simp only [Oper.gives]
    go_simp
    exact ⟨is_mk _ _, (Touch.refl []) _⟩
  case o35 =>
    intro vals wq hRq hpq
    simp only [factsP, List.getD_cons_zero, List.getD_cons_succ] at hpq
    have f19 := hpq.1
    replace hpq := hpq.2
    have f27 := hpq.1
    replace hpq := hpq.2
    have f28 := hpq.1
    replace hpq := hpq.2
    have f33 := hpq.1
    replace hpq := hpq.2
    have f34 := hpq.1
    replace hpq := hpq.2
    clear hpq
    replace f19 : vals 19 = _ := f19
    replace f27 : vals 27 = _ := f27
    replace f28 : vals 28 = _ := f28
    replace f33 : vals 33 = _ := f33
    replace f34 : vals 34 = _ := f34
    simp only [List.getD_cons_zero, List.getD_cons_succ, canonP, f19, f27, f28, f33, f34]
    clear f19 f27 f28 f33 f34
    simp only [Oper.gives]
    go_simp
    exact (HSB.out wq ((Touch.drew [] W1).trans hRq (fun i hi => .inl hi))).mono fun e w' ⟨he, hg⟩ => ⟨_, he, is_mk _ _, Touch.of_below hg⟩
  case o36 =>
    intro vals wq hRq hpq
    simp only [factsP, List.getD_cons_zero, List.getD_cons_succ] at hpq
    have f19 := hpq.1
    replace hpq := hpq.2
    have f27 := hpq.1
    replace hpq := hpq.2
    have f35 := hpq.1
    replace hpq := hpq.2
    clear hpq
    replace f19 : vals 19 = _ := f19
    replace f27 : vals 27 = _ := f27
    replace f35 : vals 35 = _ := f35
    simp only [List.getD_cons_zero, List.getD_cons_succ, canonP, f19, f27, f35]
    clear f19 f27 f35
    simp only [Oper.gives]
    go_simp
    exact ⟨is_mk _ _, (Touch.refl []) _⟩
  case o37 =>
    intro vals wq hRq hpq
    simp only [factsP, List.getD_cons_zero, List.getD_cons_succ] at hpq
    have f19 := hpq.1
    replace hpq := hpq.2
    have f36 := hpq.1
    replace hpq := hpq.2
    clear hpq
    replace f19 : vals 19 = _ := f19
    replace f36 : vals 36 = _ := f36
    simp only [List.getD_cons_zero, List.getD_cons_succ, canonP, f19, f36]
    clear f19 f36
    simp only [Oper.gives]
    go_simp
    exact ⟨is_mk _ _, (Touch.refl []) _⟩
  case o38 =>
    intro vals wq hRq hpq
    simp only [factsP, List.getD_cons_zero, List.getD_cons_succ] at hpq
    have f35 := hpq.1
    replace hpq := hpq.2
    have f37 := hpq.1
    replace hpq := hpq.2
    clear hpq
    replace f35 : vals 35 = _ := f35
    replace f37 : vals 37 = _ := f37
    simp only [List.getD_cons_zero, List.getD_cons_succ, canonP, f35, f37]
    clear f35 f37
    simp only [Oper.gives]
    go_simp
    exact ⟨is_mk _ _, (Touch.refl []) _⟩
  case o39 =>
    intro vals wq hRq hpq
    simp only [factsP, List.getD_cons_zero, List.getD_cons_succ] at hpq
    have f38 := hpq.1
    replace hpq := hpq.2
    clear hpq
    replace f38 : vals 38 = _ := f38
    simp only [List.getD_cons_zero, List.getD_cons_succ, canonP, f38]
    clear f38
    simp only [Oper.gives]
    go_simp
    exact ⟨is_mk _ _, (Touch.refl []) _⟩
  case o40 =>
    intro vals wq hRq hpq
    simp only [factsP, List.getD_cons_zero, List.getD_cons_succ] at hpq
    have f38 := hpq.1
    replace hpq := hpq.2
    clear hpq
    replace f38 : vals 38 = _ := f38
    simp only [List.getD_cons_zero, List.getD_cons_succ, canonP, f38]
    clear f38
    simp only [Oper.gives]
    go_simp
    exact ⟨is_mk _ _, (Touch.refl []) _⟩
  case o41 =>
    intro vals wq hRq hpq
    simp only [factsP, List.getD_cons_zero, List.getD_cons_succ] at hpq
    have f38 := hpq.1
    replace hpq := hpq.2
    have f39 := hpq.1
    replace hpq := hpq.2
    have f40 := hpq.1
    replace hpq := hpq.2
    clear hpq
    replace f38 : vals 38 = _ := f38
    replace f39 : vals 39 = _ := f39
    replace f40 : vals 40 = _ := f40
    simp only [List.getD_cons_zero, List.getD_cons_succ, canonP, f38, f39, f40]
    clear f38 f39 f40
    simp only [Oper.gives]
    go_simp
    exact (HOA.out wq ((Touch.drew [] W1).trans hRq (fun i hi => .inl hi))).mono fun e w' ⟨v, he, hr, hg⟩ => ⟨_, he, hr, Touch.of_below hg⟩
  case o42 =>
    intro vals wq hRq hpq
    simp only [factsP, List.getD_cons_zero, List.getD_cons_succ] at hpq
    have f38 := hpq.1
    replace hpq := hpq.2
    clear hpq
    replace f38 : vals 38 = _ := f38
    simp only [List.getD_cons_zero, List.getD_cons_succ, canonP, f38]
    clear f38
    simp only [Oper.gives]
    go_simp
    exact ⟨is_mk _ _, (Touch.refl []) _⟩
  case o43 =>
    intro vals wq hRq hpq
    simp only [factsP, List.getD_cons_zero, List.getD_cons_succ] at hpq
    have f38 := hpq.1
    replace hpq := hpq.2
    clear hpq
    replace f38 : vals 38 = _ := f38
    simp only [List.getD_cons_zero, List.getD_cons_succ, canonP, f38]
    clear f38
    simp only [Oper.gives]
    go_simp
    exact ⟨is_mk _ _, (Touch.refl []) _⟩
  case o44 =>
    intro vals wq hRq hpq
    simp only [factsP, List.getD_cons_zero, List.getD_cons_succ] at hpq
    have f38 := hpq.1
    replace hpq := hpq.2
    have f41 := hpq.1
    replace hpq := hpq.2
    have f42 := hpq.1
    replace hpq := hpq.2
    have f43 := hpq.1
    replace hpq := hpq.2
    clear hpq
    replace f38 : vals 38 = _ := f38
    replace f42 : vals 42 = _ := f42
    replace f43 : vals 43 = _ := f43
    simp only [List.getD_cons_zero, List.getD_cons_succ, canonP, f38, f42, f43]
    clear f38 f42 f43
    simp only [Oper.gives]
    go_simp
    exact (HUA.out wq ((Touch.drew [] W1).trans hRq (fun i hi => .inl hi))).mono fun e w' ⟨v, he, hr, hg⟩ => ⟨_, he, hr, Touch.of_below hg⟩
  case o45 =>
    intro vals wq hRq hpq
    simp only [factsP, List.getD_cons_zero, List.getD_cons_succ] at hpq
    have f38 := hpq.1
    replace hpq := hpq.2
    have f41 := hpq.1
    replace hpq := hpq.2
    have f44 := hpq.1
    replace hpq := hpq.2
    clear hpq
    replace f38 : vals 38 = _ := f38
    simp only [List.getD_cons_zero, List.getD_cons_succ, canonP, f38]
    clear f38
    simp only [Oper.gives]
    go_simp
    exact (same_ints f41 f44 HLA.out).mono fun e w' ⟨he, hg⟩ => ⟨_, he, is_mk _ _, Touch.of_below hg⟩
  case o46 =>
    intro vals wq hRq hpq
    simp only [factsP, List.getD_cons_zero, List.getD_cons_succ] at hpq
    have f38 := hpq.1
    replace hpq := hpq.2
    have f45 := hpq.1
    replace hpq := hpq.2
    clear hpq
    replace f38 : vals 38 = _ := f38
    replace f45 : vals 45 = _ := f45
    simp only [List.getD_cons_zero, List.getD_cons_succ, canonP, f38, f45]
    clear f38 f45
    simp only [Oper.gives]
    go_simp
    exact ⟨is_mk _ _, (Touch.refl []) _⟩
  case o47 =>
    intro vals wq hRq hpq
    simp only [factsP, List.getD_cons_zero, List.getD_cons_succ] at hpq
    have f38 := hpq.1
    replace hpq := hpq.2
    have f46 := hpq.1
    replace hpq := hpq.2
    clear hpq
    replace f38 : vals 38 = _ := f38
    replace f46 : vals 46 = _ := f46
    simp only [List.getD_cons_zero, List.getD_cons_succ, canonP, f38, f46]
    clear f38 f46
    simp only [Oper.gives]
    go_simp
    exact ⟨is_mk _ _, (Touch.refl []) _⟩
  case o48 =>
    intro vals wq hRq hpq
    simp only [factsP, List.getD_cons_zero, List.getD_cons_succ] at hpq
    have f45 := hpq.1
    replace hpq := hpq.2
    have f47 := hpq.1
    replace hpq := hpq.2
    clear hpq
    replace f45 : vals 45 = _ := f45
    replace f47 : vals 47 = _ := f47
    simp only [List.getD_cons_zero, List.getD_cons_succ, canonP, f45, f47]
    clear f45 f47
    simp only [Oper.gives]
    go_simp
    exact ⟨is_mk _ _, (Touch.refl []) _⟩
  case o49 =>
    intro vals wq hRq hpq
    simp only [factsP, List.getD_cons_zero, List.getD_cons_succ] at hpq
    have f48 := hpq.1
    replace hpq := hpq.2
    clear hpq
    replace f48 : vals 48 = _ := f48
    simp only [List.getD_cons_zero, List.getD_cons_succ, canonP, f48]
    clear f48
    simp only [Oper.gives]
    go_simp
    exact ⟨is_mk _ _, (Touch.refl []) _⟩
  case o50 =>
    intro vals wq hRq hpq
    simp only [factsP, List.getD_cons_zero, List.getD_cons_succ] at hpq
    have f48 := hpq.1
    replace hpq := hpq.2
    clear hpq
    replace f48 : vals 48 = _ := f48
    simp only [List.getD_cons_zero, List.getD_cons_succ, canonP, f48]
    clear f48
    simp only [Oper.gives]
    go_simp
    exact ⟨is_mk _ _, (Touch.refl []) _⟩
  case o51 =>
    intro vals wq hRq hpq
    simp only [factsP, List.getD_cons_zero, List.getD_cons_succ] at hpq
    have f48 := hpq.1
    replace hpq := hpq.2
    clear hpq
    replace f48 : vals 48 = _ := f48
    simp only [List.getD_cons_zero, List.getD_cons_succ, canonP, f48]
    clear f48
    simp only [Oper.gives]
    go_simp
    exact ⟨is_mk _ _, (Touch.refl []) _⟩
  case o52 =>
    intro vals wq hRq hpq
    simp only [factsP, List.getD_cons_zero, List.getD_cons_succ] at hpq
    have f48 := hpq.1
    replace hpq := hpq.2
    have f50 := hpq.1
    replace hpq := hpq.2
    have f51 := hpq.1
    replace hpq := hpq.2
    clear hpq
    replace f48 : vals 48 = _ := f48
    replace f50 : vals 50 = _ := f50
    replace f51 : vals 51 = _ := f51
    simp only [List.getD_cons_zero, List.getD_cons_succ, canonP, f48, f50, f51]
    clear f48 f50 f51
    have b0 := HB0.out
    have b1 := HB1.out
    simp only [Oper.gives]
    go_simp
    first | exact ⟨is_mk _ _, Touch.refl _ _⟩ | (refine ⟨is_mk _ _, Touch.refl _ _, ?_⟩; repeat' first | assumption | exact ⟨_, by assumption⟩ | refine And.intro ?_ ?_ | intro _)
  case o53 =>
    intro vals wq hRq hpq
    simp only [factsP, List.getD_cons_zero, List.getD_cons_succ] at hpq
    have f48 := hpq.1
    replace hpq := hpq.2
    have f52 := hpq.1
    replace hpq := hpq.2
    clear hpq
    replace f48 : vals 48 = _ := f48
    replace f52 : vals 52 = _ := f52
    simp only [List.getD_cons_zero, List.getD_cons_succ, canonP, f48, f52]
    clear f48 f52
    simp only [Oper.gives]
    go_simp
    first | exact ⟨is_mk _ _, Touch.refl _ _⟩ | (refine ⟨is_mk _ _, Touch.refl _ _, ?_⟩; repeat' first | assumption | exact ⟨_, by assumption⟩ | refine And.intro ?_ ?_ | intro _)
  case o54 =>
    intro vals wq hRq hpq
    simp only [factsP, List.getD_cons_zero, List.getD_cons_succ] at hpq
    have f48 := hpq.1
    replace hpq := hpq.2
    have f53 := hpq.1
    replace hpq := hpq.2
    clear hpq
    replace f48 : vals 48 = _ := f48
    replace f53 : vals 53 = _ := f53
    simp only [List.getD_cons_zero, List.getD_cons_succ, canonP, f48, f53]
    clear f48 f53
    have hcc2 : wq.cell? ⟨(y.add (i * 3)).block, (y.add (i * 3)).off + 2, none⟩ = some (.int .u32 (s : Int)) := (hRq.cell (a := (y.add (i * 3)).add 2) (by simp only [add_block]; exact HPL.out) (by simp only [add_block]; simp)).trans HP2.out
    simp only [Oper.gives]
    go_simp
    first | exact ⟨is_mk _ _, Touch.refl _ _⟩ | (refine ⟨is_mk _ _, Touch.refl _ _, ?_⟩; repeat' first | assumption | exact ⟨_, by assumption⟩ | refine And.intro ?_ ?_ | intro _)
  case o55 =>
    intro vals wq hRq hpq
    simp only [factsP, List.getD_cons_zero, List.getD_cons_succ] at hpq
    have f48 := hpq.1
    replace hpq := hpq.2
    have f49 := hpq.1
    replace hpq := hpq.2
    have f54 := hpq.1
    replace hpq := hpq.2
    clear hpq
    replace f48 : vals 48 = _ := f48
    replace f49 : vals 49 = _ := f49
    replace f54 : vals 54 = _ := f54
    simp only [List.getD_cons_zero, List.getD_cons_succ, canonP, f48, f49, f54]
    clear f48 f49 f54
    simp only [Oper.gives]
    go_simp
    exact (HOB.out wq ((Touch.drew [] W1).trans hRq (fun i hi => .inl hi))).mono fun e w' ⟨v, he, hr, hg⟩ => ⟨_, he, hr, Touch.of_below hg⟩
  case o56 =>
    intro vals wq hRq hpq
    simp only [factsP, List.getD_cons_zero, List.getD_cons_succ] at hpq
    have f48 := hpq.1
    replace hpq := hpq.2
    clear hpq
    replace f48 : vals 48 = _ := f48
    simp only [List.getD_cons_zero, List.getD_cons_succ, canonP, f48]
    clear f48
    simp only [Oper.gives]
    go_simp
    exact ⟨is_mk _ _, (Touch.refl []) _⟩
  case o57 =>
    intro vals wq hRq hpq
    simp only [factsP, List.getD_cons_zero, List.getD_cons_succ] at hpq
    have f48 := hpq.1
    replace hpq := hpq.2
    clear hpq
    replace f48 : vals 48 = _ := f48
    simp only [List.getD_cons_zero, List.getD_cons_succ, canonP, f48]
    clear f48
    simp only [Oper.gives]
    go_simp
    exact ⟨is_mk _ _, (Touch.refl []) _⟩
  case o58 =>
    intro vals wq hRq hpq
    simp only [factsP, List.getD_cons_zero, List.getD_cons_succ] at hpq
    have f48 := hpq.1
    replace hpq := hpq.2
    clear hpq
    replace f48 : vals 48 = _ := f48
    simp only [List.getD_cons_zero, List.getD_cons_succ, canonP, f48]
    clear f48
    simp only [Oper.gives]
    go_simp
    exact ⟨is_mk _ _, (Touch.refl []) _⟩
  case o59 =>
    intro vals wq hRq hpq
    simp only [factsP, List.getD_cons_zero, List.getD_cons_succ] at hpq
    have f48 := hpq.1
    replace hpq := hpq.2
    have f57 := hpq.1
    replace hpq := hpq.2
    have f58 := hpq.1
    replace hpq := hpq.2
    clear hpq
    replace f48 : vals 48 = _ := f48
    replace f57 : vals 57 = _ := f57
    replace f58 : vals 58 = _ := f58
    simp only [List.getD_cons_zero, List.getD_cons_succ, canonP, f48, f57, f58]
    clear f48 f57 f58
    have b0 := HB0.out
    have b1 := HB1.out
    simp only [Oper.gives]
    go_simp
    first | exact ⟨is_mk _ _, Touch.refl _ _⟩ | (refine ⟨is_mk _ _, Touch.refl _ _, ?_⟩; repeat' first | assumption | exact ⟨_, by assumption⟩ | refine And.intro ?_ ?_ | intro _)
  case o60 =>
    intro vals wq hRq hpq
    simp only [factsP, List.getD_cons_zero, List.getD_cons_succ] at hpq
    have f48 := hpq.1
    replace hpq := hpq.2
    have f59 := hpq.1
    replace hpq := hpq.2
    clear hpq
    replace f48 : vals 48 = _ := f48
    replace f59 : vals 59 = _ := f59
    simp only [List.getD_cons_zero, List.getD_cons_succ, canonP, f48, f59]
    clear f48 f59
    simp only [Oper.gives]
    go_simp
    first | exact ⟨is_mk _ _, Touch.refl _ _⟩ | (refine ⟨is_mk _ _, Touch.refl _ _, ?_⟩; repeat' first | assumption | exact ⟨_, by assumption⟩ | refine And.intro ?_ ?_ | intro _)
  case o61 =>
    intro vals wq hRq hpq
    simp only [factsP, List.getD_cons_zero, List.getD_cons_succ] at hpq
    have f48 := hpq.1
    replace hpq := hpq.2
    have f60 := hpq.1
    replace hpq := hpq.2
    clear hpq
    replace f48 : vals 48 = _ := f48
    replace f60 : vals 60 = _ := f60
    simp only [List.getD_cons_zero, List.getD_cons_succ, canonP, f48, f60]
    clear f48 f60
    have hcc2 : wq.cell? ⟨(y.add (i * 3)).block, (y.add (i * 3)).off + 2, none⟩ = some (.int .u32 (s : Int)) := (hRq.cell (a := (y.add (i * 3)).add 2) (by simp only [add_block]; exact HPL.out) (by simp only [add_block]; simp)).trans HP2.out
    simp only [Oper.gives]
    go_simp
    first | exact ⟨is_mk _ _, Touch.refl _ _⟩ | (refine ⟨is_mk _ _, Touch.refl _ _, ?_⟩; repeat' first | assumption | exact ⟨_, by assumption⟩ | refine And.intro ?_ ?_ | intro _)
  case o62 =>
    intro vals wq hRq hpq
    simp only [factsP, List.getD_cons_zero, List.getD_cons_succ] at hpq
    have f48 := hpq.1
    replace hpq := hpq.2
    have f55 := hpq.1
    replace hpq := hpq.2
    have f56 := hpq.1
    replace hpq := hpq.2
    have f61 := hpq.1
    replace hpq := hpq.2
    clear hpq
    replace f48 : vals 48 = _ := f48
    replace f56 : vals 56 = _ := f56
    replace f61 : vals 61 = _ := f61
    simp only [List.getD_cons_zero, List.getD_cons_succ, canonP, f48, f56, f61]
    clear f48 f56 f61
    simp only [Oper.gives]
    go_simp
    exact (HUB.out wq ((Touch.drew [] W1).trans hRq (fun i hi => .inl hi))).mono fun e w' ⟨v, he, hr, hg⟩ => ⟨_, he, hr, Touch.of_below hg⟩
  case o63 =>
    intro vals wq hRq hpq
    simp only [factsP, List.getD_cons_zero, List.getD_cons_succ] at hpq
    have f48 := hpq.1
    replace hpq := hpq.2
    have f55 := hpq.1
    replace hpq := hpq.2
    have f62 := hpq.1
    replace hpq := hpq.2
    clear hpq
    replace f48 : vals 48 = _ := f48
    simp only [List.getD_cons_zero, List.getD_cons_succ, canonP, f48]
    clear f48
    simp only [Oper.gives]
    go_simp
    exact (same_ints f55 f62 HLB.out).mono fun e w' ⟨he, hg⟩ => ⟨_, he, is_mk _ _, Touch.of_below hg⟩
  case o64 =>
    intro vals wq hRq hpq
    simp only [factsP, List.getD_cons_zero, List.getD_cons_succ] at hpq
    have f48 := hpq.1
    replace hpq := hpq.2
    have f63 := hpq.1
    replace hpq := hpq.2
    clear hpq
    replace f48 : vals 48 = _ := f48
    replace f63 : vals 63 = _ := f63
    simp only [List.getD_cons_zero, List.getD_cons_succ, canonP, f48, f63]
    clear f48 f63
    simp only [Oper.gives]
    go_simp
    exact ⟨is_mk _ _, (Touch.refl []) _⟩
  case o65 =>
    intro vals wq hRq hpq
    simp only [factsP, List.getD_cons_zero, List.getD_cons_succ] at hpq
    have f48 := hpq.1
    replace hpq := hpq.2
    have f64 := hpq.1
    replace hpq := hpq.2
    clear hpq
    replace f48 : vals 48 = _ := f48
    replace f64 : vals 64 = _ := f64
    simp only [List.getD_cons_zero, List.getD_cons_succ, canonP, f48, f64]
    clear f48 f64
    simp only [Oper.gives]
    go_simp
    exact ⟨is_mk _ _, (Touch.refl []) _⟩
  intro vals wz hRwz hfwz
  simp only [AllFacts] at hfwz
  have g0 := hfwz.1
  replace hfwz := hfwz.2
  have g1 := hfwz.1
  replace hfwz := hfwz.2
  have g2 := hfwz.1
  replace hfwz := hfwz.2
  have g3 := hfwz.1
  replace hfwz := hfwz.2
  have g4 := hfwz.1
  replace hfwz := hfwz.2
  have g5 := hfwz.1
  replace hfwz := hfwz.2
  have g6 := hfwz.1
  replace hfwz := hfwz.2
  have g7 := hfwz.1
  replace hfwz := hfwz.2
  have g8 := hfwz.1
  replace hfwz := hfwz.2
  have g9 := hfwz.1
  replace hfwz := hfwz.2
  have g10 := hfwz.1
  replace hfwz := hfwz.2
  have g11 := hfwz.1
  replace hfwz := hfwz.2
  have g12 := hfwz.1
  replace hfwz := hfwz.2
  have g13 := hfwz.1
  replace hfwz := hfwz.2
  have g14 := hfwz.1
  replace hfwz := hfwz.2
  have g15 := hfwz.1
  replace hfwz := hfwz.2
  have g16 := hfwz.1
  replace hfwz := hfwz.2
  have g17 := hfwz.1
  replace hfwz := hfwz.2
  have g18 := hfwz.1
  replace hfwz := hfwz.2
  have g19 := hfwz.1
  replace hfwz := hfwz.2
  have g20 := hfwz.1
  replace hfwz := hfwz.2
  have g21 := hfwz.1
  replace hfwz := hfwz.2
  have g22 := hfwz.1
  replace hfwz := hfwz.2
  have g23 := hfwz.1
  replace hfwz := hfwz.2
  have g24 := hfwz.1
  replace hfwz := hfwz.2
  have g25 := hfwz.1
  replace hfwz := hfwz.2
  have g26 := hfwz.1
  replace hfwz := hfwz.2
  have g27 := hfwz.1
  replace hfwz := hfwz.2
  have g28 := hfwz.1
  replace hfwz := hfwz.2
  have g29 := hfwz.1
  replace hfwz := hfwz.2
  have g30 := hfwz.1
  replace hfwz := hfwz.2
  have g31 := hfwz.1
  replace hfwz := hfwz.2
  have g32 := hfwz.1
  replace hfwz := hfwz.2
  have g33 := hfwz.1
  replace hfwz := hfwz.2
  have g34 := hfwz.1
  replace hfwz := hfwz.2
  have g35 := hfwz.1
  replace hfwz := hfwz.2
  have g36 := hfwz.1
  replace hfwz := hfwz.2
  have g37 := hfwz.1
  replace hfwz := hfwz.2
  have g38 := hfwz.1
  replace hfwz := hfwz.2
  have g39 := hfwz.1
  replace hfwz := hfwz.2
  have g40 := hfwz.1
  replace hfwz := hfwz.2
  have g41 := hfwz.1
  replace hfwz := hfwz.2
  have g42 := hfwz.1
  replace hfwz := hfwz.2
  have g43 := hfwz.1
  replace hfwz := hfwz.2
  have g44 := hfwz.1
  replace hfwz := hfwz.2
  have g45 := hfwz.1
  replace hfwz := hfwz.2
  have g46 := hfwz.1
  replace hfwz := hfwz.2
  have g47 := hfwz.1
  replace hfwz := hfwz.2
  have g48 := hfwz.1
  replace hfwz := hfwz.2
  have g49 := hfwz.1
  replace hfwz := hfwz.2
  have g50 := hfwz.1
  replace hfwz := hfwz.2
  have g51 := hfwz.1
  replace hfwz := hfwz.2
  have g52 := hfwz.1
  replace hfwz := hfwz.2
  have g53 := hfwz.1
  replace hfwz := hfwz.2
  have g54 := hfwz.1
  replace hfwz := hfwz.2
  have g55 := hfwz.1
  replace hfwz := hfwz.2
  have g56 := hfwz.1
  replace hfwz := hfwz.2
  have g57 := hfwz.1
  replace hfwz := hfwz.2
  have g58 := hfwz.1
  replace hfwz := hfwz.2
  have g59 := hfwz.1
  replace hfwz := hfwz.2
  have g60 := hfwz.1
  replace hfwz := hfwz.2
  have g61 := hfwz.1
  replace hfwz := hfwz.2
  have g62 := hfwz.1
  replace hfwz := hfwz.2
  have g63 := hfwz.1
  replace hfwz := hfwz.2
  have g64 := hfwz.1
  replace hfwz := hfwz.2
  have g65 := hfwz.1
  replace hfwz := hfwz.2
  clear hfwz
  replace g0 : vals 0 = _ := g0
  replace g1 : vals 1 = _ := g1
  replace g2 : vals 2 = _ := g2
  replace g3 : vals 3 = _ := g3
  replace g4 : vals 4 = _ := g4
  replace g5 : vals 5 = _ := g5
  replace g6 : vals 6 = _ := g6
  replace g7 : vals 7 = _ := g7
  replace g8 : vals 8 = _ := g8
  replace g9 : vals 9 = _ := g9
  replace g10 : vals 10 = _ := g10
  replace g11 : vals 11 = _ := g11
  replace g12 : vals 12 = _ := g12
  replace g13 : vals 13 = _ := g13
  replace g14 : vals 14 = _ := g14
  replace g15 : vals 15 = _ := g15
  replace g16 : vals 16 = _ := g16
  replace g17 : vals 17 = _ := g17
  replace g18 : vals 18 = _ := g18
  replace g19 : vals 19 = _ := g19
  replace g20 : vals 20 = _ := g20
  replace g21 : vals 21 = _ := g21
  replace g22 : vals 22 = _ := g22
  replace g23 : vals 23 = _ := g23
  replace g24 : vals 24 = _ := g24
  replace g25 : vals 25 = _ := g25
  replace g26 : vals 26 = _ := g26
  replace g27 : vals 27 = _ := g27
  replace g28 : vals 28 = _ := g28
  replace g29 : vals 29 = _ := g29
  replace g30 : vals 30 = _ := g30
  replace g31 : vals 31 = _ := g31
  replace g32 : vals 32 = _ := g32
  replace g33 : vals 33 = _ := g33
  replace g34 : vals 34 = _ := g34
  replace g35 : vals 35 = _ := g35
  replace g36 : vals 36 = _ := g36
  replace g37 : vals 37 = _ := g37
  replace g38 : vals 38 = _ := g38
  replace g39 : vals 39 = _ := g39
  replace g40 : vals 40 = _ := g40
  replace g42 : vals 42 = _ := g42
  replace g43 : vals 43 = _ := g43
  replace g45 : vals 45 = _ := g45
  replace g46 : vals 46 = _ := g46
  replace g47 : vals 47 = _ := g47
  replace g48 : vals 48 = _ := g48
  replace g49 : vals 49 = _ := g49
  replace g50 : vals 50 = _ := g50
  replace g51 : vals 51 = _ := g51
  replace g52 : vals 52 = _ := g52
  replace g53 : vals 53 = _ := g53
  replace g54 : vals 54 = _ := g54
  replace g56 : vals 56 = _ := g56
  replace g57 : vals 57 = _ := g57
  replace g58 : vals 58 = _ := g58
  replace g59 : vals 59 = _ := g59
  replace g60 : vals 60 = _ := g60
  replace g61 : vals 61 = _ := g61
  replace g63 : vals 63 = _ := g63
  replace g64 : vals 64 = _ := g64
  replace g65 : vals 65 = _ := g65
  simp only [canonP, Act.put, List.setIfInBounds_toArray, List.set_cons_succ, List.set_cons_zero, g0, g1, g2, g3, g4, g5, g6, g7, g8, g9, g10, g11, g12, g13, g14, g15, g16, g17, g18, g19, g20, g21, g22, g23, g24, g25, g26, g27, g28, g29, g30, g31, g32, g33, g34, g35, g36, g37, g38, g39, g40, g42, g43, g45, g46, g47, g48, g49, g50, g51, g52, g53, g54, g56, g57, g58, g59, g60, g61, g63, g64, g65]
  clear g0 g1 g2 g3 g4 g5 g6 g7 g8 g9 g10 g11 g12 g13 g14 g15 g16 g17 g18 g19 g20 g21 g22 g23 g24 g25 g26 g27 g28 g29 g30 g31 g32 g33 g34 g35 g36 g37 g38 g39 g40 g41 g42 g43 g44 g45 g46 g47 g48 g49 g50 g51 g52 g53 g54 g55 g56 g57 g58 g59 g60 g61 g62 g63 g64 g65
  exact HK.out _ _ _ _ _ _ _ _ _ _ _ _ _ _ _ _ _ _ _ _ _ _ _ _ _ _ _ _ _ _ _ _ _ _ _ _ _ _ _ _ _ _ _ _ _ _ _ _ _ _ _ _ _ _ _ _ _ _ _ _ _ _ _ _ _ _ ((Touch.drew [] W1).trans hRwz (fun i hi => .inl hi))
#print axioms plays14_reg

end Go.Proofs.Ytbpejjgjjjmlkaa
