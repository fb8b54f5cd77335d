/- The law's alike: its region. -/
import Derived.Test.YtkcbjhdklenlbaaD44
set_option linter.unusedVariables false
set_option linter.unusedSimpArgs false
namespace Go.Proofs.Ytkcbjhdklenlbaa
open Go.RowKit

noncomputable def alikeCode : Code := regById 1 (codesOf (Try.f28.body.getD .skip))
set_option maxRecDepth 100000 in
set_option maxHeartbeats 4000000 in
theorem alike_reg (B R g n c m cw : Nat) (ad : Option Addr) (ac : Int) (dd : Bool) (G L : List Blk) (W1 : World) (HLR : Hid (R < W1.heap.size)) (HR0 : Hid (W1.cell? ⟨R, 0, none⟩ = some (.slice (some ⟨g, 0, none⟩) n c))) (HR1 : Hid (W1.cell? ⟨R, 1, none⟩ = some (.slice ad m cw))) (HR2 : Hid (W1.cell? ⟨R, 2, none⟩ = some (.int .i64 ac))) (HRL : Hid (Row W1 32 256 (.slice (some ⟨g, 0, none⟩) n c) (L.map bc)))
    (HG1 : Hid (1 ≤ G.length)) (HG2 : Hid (G.length ≤ 4096)) (HL1 : Hid (1 ≤ L.length)) (HL2 : Hid (L.length ≤ 4096))
    (HC1 : Hid (∀ wq, Touch [] W1 wq → Calls Try.prog 18 #[.pointer (some ⟨B, 0, none⟩)] wq fun e w' => e = .returned (.int .i64 (n : Int)) ∧ wq = w'))
    (HC10 : Hid (∀ wq, Touch [] W1 wq → Calls Try.prog 16 #[.pointer (some ⟨B, 0, none⟩)] wq fun e w' => e = .returned (.int .i64 (m : Int)) ∧ wq = w'))
    (HC20 : Hid (∀ wq, Touch [] W1 wq → Calls Try.prog 17 #[.pointer (some ⟨B, 0, none⟩)] wq fun e w' => e = .returned (.int .i64 ac) ∧ wq = w'))
    (HC29 : Hid (∀ wq, Touch [] W1 wq → Calls Try.prog 23 #[.pointer (some ⟨B, 0, none⟩)] wq fun e w' => e = .returned (.bool dd) ∧ wq = w'))
    (HC31 : Hid (∀ wq, Touch [] W1 wq → Calls Try.prog 36 #[.pointer (some ⟨R, 0, none⟩)] wq fun e w' => e = .returned (.bool dd) ∧ wq = w'))
    (HC36 : Hid (∀ wq, Touch [] W1 wq → Calls Try.prog 11 #[.pointer (some ⟨B, 0, none⟩)] wq fun e w' => ∃ v, e = .returned v ∧ Row w' 32 256 v (G.map bc) ∧ Grow wq w'))
    (HC38 : Hid (∀ wq, Touch [] W1 wq → Calls Try.prog 37 #[.pointer (some ⟨R, 0, none⟩)] wq fun e w' => ∃ v, e = .returned v ∧ Row w' 32 256 v (G.map bc) ∧ Grow wq w'))
    (HC43 : Hid (∀ wq, Touch [] W1 wq → Calls Try.prog 12 #[.pointer (some ⟨B, 0, none⟩)] wq fun e w' => ∃ v, e = .returned v ∧ Row w' 32 256 v (L.map bc) ∧ Grow wq w'))
    (c2 c3 c4 c5 c6 c7 c8 c9 c10 c11 c12 c13 c14 c15 c16 c17 c18 c19 c20 c21 c22 c23 c24 c25 c26 c27 c28 c29 c30 c31 c32 c33 c34 c35 c36 c37 c38 c39 c40 c41 c42 c43 c44 c45 c46 c47 c48 c49 c50 c51 c52 c53 c54 : Value) (Q : Exit → Act → World → Prop) (HK : Hid (∀ u5 u6 u7 u8 u9 u10 u11 u12 u13 u14 u15 u16 u17 u18 u19 u20 u21 u22 u23 u24 u25 u26 u27 u28 u29 u30 u31 u32 u33 u34 u35 u36 u37 u38 u39 u40 u41 u42 u43 u44 u45 u46 u47 u48 u49 u50 u51 u52 u53 u54 wz, Touch [] W1 wz → Q .normal ⟨(.pointer (some ⟨B, 0, none⟩) :: .pointer (some ⟨R, 0, none⟩) :: c2 :: c3 :: .bool true :: u5 :: u6 :: u7 :: u8 :: u9 :: u10 :: u11 :: u12 :: u13 :: u14 :: u15 :: u16 :: u17 :: u18 :: u19 :: u20 :: u21 :: u22 :: u23 :: u24 :: u25 :: u26 :: u27 :: u28 :: u29 :: u30 :: u31 :: u32 :: u33 :: u34 :: u35 :: u36 :: u37 :: u38 :: u39 :: u40 :: u41 :: u42 :: u43 :: u44 :: u45 :: u46 :: u47 :: u48 :: u49 :: u50 :: u51 :: u52 :: u53 :: u54 :: []).toArray, []⟩ wz)) : alikeCode.wp Try.prog Q ⟨(.pointer (some ⟨B, 0, none⟩) :: .pointer (some ⟨R, 0, none⟩) :: c2 :: c3 :: c4 :: c5 :: c6 :: c7 :: c8 :: c9 :: c10 :: c11 :: c12 :: c13 :: c14 :: c15 :: c16 :: c17 :: c18 :: c19 :: c20 :: c21 :: c22 :: c23 :: c24 :: c25 :: c26 :: c27 :: c28 :: c29 :: c30 :: c31 :: c32 :: c33 :: c34 :: c35 :: c36 :: c37 :: c38 :: c39 :: c40 :: c41 :: c42 :: c43 :: c44 :: c45 :: c46 :: c47 :: c48 :: c49 :: c50 :: c51 :: c52 :: c53 :: c54 :: []).toArray, []⟩ W1 := by
  conv => arg 2; whnf
  refine wp_region_facts (by kernel_rfl) [[], [(0, some 5)], [], [(2, some 7)], [(3, some 8)], [(4, some 9)], [(5, some 10)], [(1, some 6), (6, some 11)], [(1, some 6), (7, some 12)], [(8, some 13)], [(8, some 13), (9, some 14)], [(8, some 13)], [(8, some 13), (11, some 16)], [(8, some 13), (12, some 17)], [(8, some 13), (13, some 18)], [(8, some 13), (14, some 19)], [(8, some 13), (10, some 15), (15, some 20)], [(8, some 13), (16, some 21)], [(10, some 15), (17, some 22)], [(18, some 23)], [(18, some 23), (19, some 24)], [(18, some 23)], [(18, some 23), (21, some 26)], [(18, some 23), (22, some 27)], [(18, some 23), (23, some 28)], [(18, some 23), (20, some 25), (24, some 29)], [(18, some 23), (25, some 30)], [(20, some 25), (26, some 31)], [(27, some 32)], [(27, some 32), (28, some 33)], [(27, some 32)], [(27, some 32), (29, some 34), (30, some 35)], [(27, some 32), (29, some 34), (31, some 36)], [(27, some 32), (32, some 37)], [(31, some 36), (33, some 38)], [(34, some 39)], [(34, some 39), (35, some 40)], [(34, some 39)], [(34, some 39), (36, some 41), (37, some 42)], [(34, some 39), (36, some 41), (38, some 43)], [(34, some 39), (39, some 44)], [(39, some 44), (40, some 45)], [(41, some 46)], [(41, some 46), (42, some 47)], [(41, some 46)], [(41, some 46), (44, some 49)], [(41, some 46), (45, some 50)], [(41, some 46), (46, some 51)], [(41, some 46), (43, some 48), (47, some 52)], [(41, some 46), (48, some 53)], [(0, some 5), (1, some 6), (2, some 7), (3, some 8), (4, some 9), (5, some 10), (6, some 11), (7, some 12), (8, some 13), (9, some 14), (10, some 15), (11, some 16), (12, some 17), (13, some 18), (14, some 19), (15, some 20), (16, some 21), (17, some 22), (18, some 23), (19, some 24), (20, some 25), (21, some 26), (22, some 27), (23, some 28), (24, some 29), (25, some 30), (26, some 31), (27, some 32), (28, some 33), (29, some 34), (30, some 35), (31, some 36), (32, some 37), (33, some 38), (34, some 39), (35, some 40), (36, some 41), (37, some 42), (38, some 43), (39, some 44), (40, some 45), (41, some 46), (42, some 47), (43, some 48), (44, some 49), (45, some 50), (46, some 51), (47, some 52), (48, some 53), (49, some 54)]] [(0, some 5), (1, some 6), (2, some 7), (3, some 8), (4, some 9), (5, some 10), (6, some 11), (7, some 12), (8, some 13), (9, some 14), (10, some 15), (11, some 16), (12, some 17), (13, some 18), (14, some 19), (15, some 20), (16, some 21), (17, some 22), (18, some 23), (19, some 24), (20, some 25), (21, some 26), (22, some 27), (23, some 28), (24, some 29), (25, some 30), (26, some 31), (27, some 32), (28, some 33), (29, some 34), (30, some 35), (31, some 36), (32, some 37), (33, some 38), (34, some 39), (35, some 40), (36, some 41), (37, some 42), (38, some 43), (39, some 44), (40, some 45), (41, some 46), (42, some 47), (43, some 48), (44, some 49), (45, some 50), (46, some 51), (47, some 52), (48, some 53), (49, some 54), (50, some 4)] (by kernel_rfl) (by kernel_rfl) (by kernel_rfl) (Touch []) (Touch.refl []) (fun _ _ _ h h' => h.trans h' (fun i hi => .inl hi)) [Is (Value.pointer (some ⟨B, 0, none⟩)), Is (Value.int .i64 (n : Int)), Is (Value.pointer (some ⟨R, 0, none⟩)), Is (Value.pointer (some ⟨R, 0, none⟩)), Is (Value.pointer (some ⟨R, 0, none⟩)), Is (Value.slice (some ⟨g, 0, none⟩) n c), Is (Value.int .i64 (n : Int)), Is (Value.bool true), Is (Value.bool true), Is (Value.pointer (some ⟨B, 0, none⟩)), Is (Value.int .i64 (m : Int)), Is (Value.pointer (some ⟨R, 0, none⟩)), Is (Value.pointer (some ⟨R, 0, none⟩)), Is (Value.pointer (some ⟨R, 1, none⟩)), Is (Value.slice ad m cw), Is (Value.int .i64 (m : Int)), Is (Value.bool true), Is (Value.bool true), Is (Value.bool true), Is (Value.pointer (some ⟨B, 0, none⟩)), Is (Value.int .i64 ac), Is (Value.pointer (some ⟨R, 0, none⟩)), Is (Value.pointer (some ⟨R, 0, none⟩)), Is (Value.pointer (some ⟨R, 2, none⟩)), Is (Value.int .i64 ac), Is (Value.bool true), Is (Value.bool true), Is (Value.bool true), Is (Value.pointer (some ⟨B, 0, none⟩)), Is (Value.bool dd), Is (Value.pointer (some ⟨R, 0, none⟩)), Is (Value.bool dd), Is (Value.bool true), Is (Value.bool true), Is (Value.bool true), Is (Value.pointer (some ⟨B, 0, none⟩)), (fun v wx => Row wx 32 256 v (G.map bc)), Is (Value.pointer (some ⟨R, 0, none⟩)), (fun v wx => Row wx 32 256 v (G.map bc)), Is (Value.bool true), Is (Value.bool true), Is (Value.bool true), Is (Value.pointer (some ⟨B, 0, none⟩)), (fun v wx => Row wx 32 256 v (L.map bc)), Is (Value.pointer (some ⟨R, 0, none⟩)), Is (Value.pointer (some ⟨R, 0, none⟩)), Is (Value.pointer (some ⟨R, 0, none⟩)), Is (Value.slice (some ⟨g, 0, none⟩) n c), Is (Value.bool true), Is (Value.bool true), Is (Value.bool true)] rfl ⟨is_stab _ _, is_stab _ _, is_stab _ _, is_stab _ _, is_stab _ _, is_stab _ _, is_stab _ _, is_stab _ _, is_stab _ _, is_stab _ _, is_stab _ _, is_stab _ _, is_stab _ _, is_stab _ _, is_stab _ _, is_stab _ _, is_stab _ _, is_stab _ _, is_stab _ _, is_stab _ _, is_stab _ _, is_stab _ _, is_stab _ _, is_stab _ _, is_stab _ _, is_stab _ _, is_stab _ _, is_stab _ _, is_stab _ _, is_stab _ _, is_stab _ _, is_stab _ _, is_stab _ _, is_stab _ _, is_stab _ _, is_stab _ _, (fun v w w' h1 h2 => Row.kept h2 h1 (by simp)), is_stab _ _, (fun v w w' h1 h2 => Row.kept h2 h1 (by simp)), is_stab _ _, is_stab _ _, is_stab _ _, is_stab _ _, (fun v w w' h1 h2 => Row.kept h2 h1 (by simp)), is_stab _ _, is_stab _ _, is_stab _ _, is_stab _ _, is_stab _ _, is_stab _ _, is_stab _ _, trivial⟩ ⟨?o0, ?o1, ?o2, ?o3, ?o4, ?o5, ?o6, ?o7, ?o8, ?o9, ?o10, ?o11, ?o12, ?o13, ?o14, ?o15, ?o16, ?o17, ?o18, ?o19, ?o20, ?o21, ?o22, ?o23, ?o24, ?o25, ?o26, ?o27, ?o28, ?o29, ?o30, ?o31, ?o32, ?o33, ?o34, ?o35, ?o36, ?o37, ?o38, ?o39, ?o40, ?o41, ?o42, ?o43, ?o44, ?o45, ?o46, ?o47, ?o48, ?o49, ?o50, trivial⟩ ?_
  case o0 =>
    intro vals wq hRq hpq
    simp only [List.getD_cons_zero, List.getD_cons_succ, canonP]
    simp only [Oper.gives]
    go_simp
    exact ⟨is_mk _ _, (Touch.refl []) _⟩
  case o1 =>
    intro vals wq hRq hpq
    simp only [factsP, List.getD_cons_zero, List.getD_cons_succ] at hpq
    have f0 := hpq.1
    replace hpq := hpq.2
    clear hpq
    replace f0 : vals 0 = _ := f0
    simp only [List.getD_cons_zero, List.getD_cons_succ, canonP, f0]
    clear f0
    simp only [Oper.gives]
    go_simp
    exact (HC1.out wq ((Touch.drew [] W1).trans hRq (fun i hi => .inl hi))).mono fun e w' ⟨he, hg⟩ => ⟨_, he, is_mk _ _, hg ▸ Touch.refl _ _⟩
  case o2 =>
    intro vals wq hRq hpq
    simp only [List.getD_cons_zero, List.getD_cons_succ, canonP]
    simp only [Oper.gives]
    go_simp
    exact ⟨is_mk _ _, (Touch.refl []) _⟩
  case o3 =>
    intro vals wq hRq hpq
    simp only [factsP, List.getD_cons_zero, List.getD_cons_succ] at hpq
    have f2 := hpq.1
    replace hpq := hpq.2
    clear hpq
    replace f2 : vals 2 = _ := f2
    simp only [List.getD_cons_zero, List.getD_cons_succ, canonP, f2]
    clear f2
    simp only [Oper.gives]
    go_simp
    exact ⟨is_mk _ _, Touch.refl _ _⟩
  case o4 =>
    intro vals wq hRq hpq
    simp only [factsP, List.getD_cons_zero, List.getD_cons_succ] at hpq
    have f3 := hpq.1
    replace hpq := hpq.2
    clear hpq
    replace f3 : vals 3 = _ := f3
    simp only [List.getD_cons_zero, List.getD_cons_succ, canonP, f3]
    clear f3
    simp only [Oper.gives]
    go_simp
    exact ⟨is_mk _ _, Touch.refl _ _⟩
  case o5 =>
    intro vals wq hRq hpq
    simp only [factsP, List.getD_cons_zero, List.getD_cons_succ] at hpq
    have f4 := hpq.1
    replace hpq := hpq.2
    clear hpq
    replace f4 : vals 4 = _ := f4
    simp only [List.getD_cons_zero, List.getD_cons_succ, canonP, f4]
    clear f4
    have hcc : wq.cell? ⟨R, 0, none⟩ = some (.slice (some ⟨g, 0, none⟩) n c) := (hRq.cell (a := ⟨R, 0, none⟩) HLR.out (by simp)).trans HR0.out
    simp only [Oper.gives]
    go_simp
    exact ⟨is_mk _ _, Touch.refl _ _⟩
  case o6 =>
    intro vals wq hRq hpq
    simp only [factsP, List.getD_cons_zero, List.getD_cons_succ] at hpq
    have f5 := hpq.1
    replace hpq := hpq.2
    clear hpq
    replace f5 : vals 5 = _ := f5
    simp only [List.getD_cons_zero, List.getD_cons_succ, canonP, f5]
    clear f5
    simp only [Oper.gives]
    go_simp
    exact ⟨is_mk _ _, (Touch.refl []) _⟩
  case o7 =>
    intro vals wq hRq hpq
    simp only [factsP, List.getD_cons_zero, List.getD_cons_succ] at hpq
    have f1 := hpq.1
    replace hpq := hpq.2
    have f6 := hpq.1
    replace hpq := hpq.2
    clear hpq
    replace f1 : vals 1 = _ := f1
    replace f6 : vals 6 = _ := f6
    simp only [List.getD_cons_zero, List.getD_cons_succ, canonP, f1, f6]
    clear f1 f6
    simp only [Oper.gives]
    go_simp
    exact ⟨is_mk _ _, (Touch.refl []) _⟩
  case o8 =>
    intro vals wq hRq hpq
    simp only [factsP, List.getD_cons_zero, List.getD_cons_succ] at hpq
    have f1 := hpq.1
    replace hpq := hpq.2
    have f7 := hpq.1
    replace hpq := hpq.2
    clear hpq
    replace f1 : vals 1 = _ := f1
    replace f7 : vals 7 = _ := f7
    simp only [List.getD_cons_zero, List.getD_cons_succ, canonP, f1, f7]
    clear f1 f7
    simp only [Oper.gives]
    go_simp
    exact ⟨is_mk _ _, (Touch.refl []) _⟩
  case o9 =>
    intro vals wq hRq hpq
    simp only [factsP, List.getD_cons_zero, List.getD_cons_succ] at hpq
    have f8 := hpq.1
    replace hpq := hpq.2
    clear hpq
    replace f8 : vals 8 = _ := f8
    simp only [List.getD_cons_zero, List.getD_cons_succ, canonP, f8]
    clear f8
    simp only [Oper.gives]
    go_simp
    exact ⟨is_mk _ _, (Touch.refl []) _⟩
  case o10 =>
    intro vals wq hRq hpq
    simp only [factsP, List.getD_cons_zero, List.getD_cons_succ] at hpq
    have f8 := hpq.1
    replace hpq := hpq.2
    have f9 := hpq.1
    replace hpq := hpq.2
    clear hpq
    replace f8 : vals 8 = _ := f8
    replace f9 : vals 9 = _ := f9
    simp only [List.getD_cons_zero, List.getD_cons_succ, canonP, f8, f9]
    clear f8 f9
    simp only [Oper.gives]
    go_simp
    exact (HC10.out wq ((Touch.drew [] W1).trans hRq (fun i hi => .inl hi))).mono fun e w' ⟨he, hg⟩ => ⟨_, he, is_mk _ _, hg ▸ Touch.refl _ _⟩
  case o11 =>
    intro vals wq hRq hpq
    simp only [factsP, List.getD_cons_zero, List.getD_cons_succ] at hpq
    have f8 := hpq.1
    replace hpq := hpq.2
    clear hpq
    replace f8 : vals 8 = _ := f8
    simp only [List.getD_cons_zero, List.getD_cons_succ, canonP, f8]
    clear f8
    simp only [Oper.gives]
    go_simp
    exact ⟨is_mk _ _, (Touch.refl []) _⟩
  case o12 =>
    intro vals wq hRq hpq
    simp only [factsP, List.getD_cons_zero, List.getD_cons_succ] at hpq
    have f8 := hpq.1
    replace hpq := hpq.2
    have f11 := hpq.1
    replace hpq := hpq.2
    clear hpq
    replace f8 : vals 8 = _ := f8
    replace f11 : vals 11 = _ := f11
    simp only [List.getD_cons_zero, List.getD_cons_succ, canonP, f8, f11]
    clear f8 f11
    simp only [Oper.gives]
    go_simp
    exact ⟨is_mk _ _, Touch.refl _ _⟩
  case o13 =>
    intro vals wq hRq hpq
    simp only [factsP, List.getD_cons_zero, List.getD_cons_succ] at hpq
    have f8 := hpq.1
    replace hpq := hpq.2
    have f12 := hpq.1
    replace hpq := hpq.2
    clear hpq
    replace f8 : vals 8 = _ := f8
    replace f12 : vals 12 = _ := f12
    simp only [List.getD_cons_zero, List.getD_cons_succ, canonP, f8, f12]
    clear f8 f12
    simp only [Oper.gives]
    go_simp
    exact ⟨is_mk _ _, Touch.refl _ _⟩
  case o14 =>
    intro vals wq hRq hpq
    simp only [factsP, List.getD_cons_zero, List.getD_cons_succ] at hpq
    have f8 := hpq.1
    replace hpq := hpq.2
    have f13 := hpq.1
    replace hpq := hpq.2
    clear hpq
    replace f8 : vals 8 = _ := f8
    replace f13 : vals 13 = _ := f13
    simp only [List.getD_cons_zero, List.getD_cons_succ, canonP, f8, f13]
    clear f8 f13
    have hcc : wq.cell? ⟨R, 1, none⟩ = some (.slice ad m cw) := (hRq.cell (a := ⟨R, 1, none⟩) HLR.out (by simp)).trans HR1.out
    simp only [Oper.gives]
    go_simp
    exact ⟨is_mk _ _, Touch.refl _ _⟩
  case o15 =>
    intro vals wq hRq hpq
    simp only [factsP, List.getD_cons_zero, List.getD_cons_succ] at hpq
    have f8 := hpq.1
    replace hpq := hpq.2
    have f14 := hpq.1
    replace hpq := hpq.2
    clear hpq
    replace f8 : vals 8 = _ := f8
    replace f14 : vals 14 = _ := f14
    simp only [List.getD_cons_zero, List.getD_cons_succ, canonP, f8, f14]
    clear f8 f14
    simp only [Oper.gives]
    go_simp
    exact ⟨is_mk _ _, (Touch.refl []) _⟩
  case o16 =>
    intro vals wq hRq hpq
    simp only [factsP, List.getD_cons_zero, List.getD_cons_succ] at hpq
    have f8 := hpq.1
    replace hpq := hpq.2
    have f10 := hpq.1
    replace hpq := hpq.2
    have f15 := hpq.1
    replace hpq := hpq.2
    clear hpq
    replace f8 : vals 8 = _ := f8
    replace f10 : vals 10 = _ := f10
    replace f15 : vals 15 = _ := f15
    simp only [List.getD_cons_zero, List.getD_cons_succ, canonP, f8, f10, f15]
    clear f8 f10 f15
    simp only [Oper.gives]
    go_simp
    exact ⟨is_mk _ _, (Touch.refl []) _⟩
  case o17 =>
    intro vals wq hRq hpq
    simp only [factsP, List.getD_cons_zero, List.getD_cons_succ] at hpq
    have f8 := hpq.1
    replace hpq := hpq.2
    have f16 := hpq.1
    replace hpq := hpq.2
    clear hpq
    replace f8 : vals 8 = _ := f8
    replace f16 : vals 16 = _ := f16
    simp only [List.getD_cons_zero, List.getD_cons_succ, canonP, f8, f16]
    clear f8 f16
    simp only [Oper.gives]
    go_simp
    exact ⟨is_mk _ _, (Touch.refl []) _⟩
  case o18 =>
    intro vals wq hRq hpq
    simp only [factsP, List.getD_cons_zero, List.getD_cons_succ] at hpq
    have f10 := hpq.1
    replace hpq := hpq.2
    have f17 := hpq.1
    replace hpq := hpq.2
    clear hpq
    replace f10 : vals 10 = _ := f10
    replace f17 : vals 17 = _ := f17
    simp only [List.getD_cons_zero, List.getD_cons_succ, canonP, f10, f17]
    clear f10 f17
    simp only [Oper.gives]
    go_simp
    exact ⟨is_mk _ _, (Touch.refl []) _⟩
  case o19 =>
    intro vals wq hRq hpq
    simp only [factsP, List.getD_cons_zero, List.getD_cons_succ] at hpq
    have f18 := hpq.1
    replace hpq := hpq.2
    clear hpq
    replace f18 : vals 18 = _ := f18
    simp only [List.getD_cons_zero, List.getD_cons_succ, canonP, f18]
    clear f18
    simp only [Oper.gives]
    go_simp
    exact ⟨is_mk _ _, (Touch.refl []) _⟩
  case o20 =>
    intro vals wq hRq hpq
    simp only [factsP, List.getD_cons_zero, List.getD_cons_succ] at hpq
    have f18 := hpq.1
    replace hpq := hpq.2
    have f19 := hpq.1
    replace hpq := hpq.2
    clear hpq
    replace f18 : vals 18 = _ := f18
    replace f19 : vals 19 = _ := f19
    simp only [List.getD_cons_zero, List.getD_cons_succ, canonP, f18, f19]
    clear f18 f19
    simp only [Oper.gives]
    go_simp
    exact (HC20.out wq ((Touch.drew [] W1).trans hRq (fun i hi => .inl hi))).mono fun e w' ⟨he, hg⟩ => ⟨_, he, is_mk _ _, hg ▸ Touch.refl _ _⟩
  case o21 =>
    intro vals wq hRq hpq
    simp only [factsP, List.getD_cons_zero, List.getD_cons_succ] at hpq
    have f18 := hpq.1
    replace hpq := hpq.2
    clear hpq
    replace f18 : vals 18 = _ := f18
    simp only [List.getD_cons_zero, List.getD_cons_succ, canonP, f18]
    clear f18
    simp only [Oper.gives]
    go_simp
    exact ⟨is_mk _ _, (Touch.refl []) _⟩
  case o22 =>
    intro vals wq hRq hpq
    simp only [factsP, List.getD_cons_zero, List.getD_cons_succ] at hpq
    have f18 := hpq.1
    replace hpq := hpq.2
    have f21 := hpq.1
    replace hpq := hpq.2
    clear hpq
    replace f18 : vals 18 = _ := f18
    replace f21 : vals 21 = _ := f21
    simp only [List.getD_cons_zero, List.getD_cons_succ, canonP, f18, f21]
    clear f18 f21
    simp only [Oper.gives]
    go_simp
    exact ⟨is_mk _ _, Touch.refl _ _⟩
  case o23 =>
    intro vals wq hRq hpq
    simp only [factsP, List.getD_cons_zero, List.getD_cons_succ] at hpq
    have f18 := hpq.1
    replace hpq := hpq.2
    have f22 := hpq.1
    replace hpq := hpq.2
    clear hpq
    replace f18 : vals 18 = _ := f18
    replace f22 : vals 22 = _ := f22
    simp only [List.getD_cons_zero, List.getD_cons_succ, canonP, f18, f22]
    clear f18 f22
    simp only [Oper.gives]
    go_simp
    exact ⟨is_mk _ _, Touch.refl _ _⟩
  case o24 =>
    intro vals wq hRq hpq
    simp only [factsP, List.getD_cons_zero, List.getD_cons_succ] at hpq
    have f18 := hpq.1
    replace hpq := hpq.2
    have f23 := hpq.1
    replace hpq := hpq.2
    clear hpq
    replace f18 : vals 18 = _ := f18
    replace f23 : vals 23 = _ := f23
    simp only [List.getD_cons_zero, List.getD_cons_succ, canonP, f18, f23]
    clear f18 f23
    have hcc : wq.cell? ⟨R, 2, none⟩ = some (.int .i64 ac) := (hRq.cell (a := ⟨R, 2, none⟩) HLR.out (by simp)).trans HR2.out
    simp only [Oper.gives]
    go_simp
    exact ⟨is_mk _ _, Touch.refl _ _⟩
  case o25 =>
    intro vals wq hRq hpq
    simp only [factsP, List.getD_cons_zero, List.getD_cons_succ] at hpq
    have f18 := hpq.1
    replace hpq := hpq.2
    have f20 := hpq.1
    replace hpq := hpq.2
    have f24 := hpq.1
    replace hpq := hpq.2
    clear hpq
    replace f18 : vals 18 = _ := f18
    replace f20 : vals 20 = _ := f20
    replace f24 : vals 24 = _ := f24
    simp only [List.getD_cons_zero, List.getD_cons_succ, canonP, f18, f20, f24]
    clear f18 f20 f24
    simp only [Oper.gives]
    go_simp
    exact ⟨is_mk _ _, (Touch.refl []) _⟩
  case o26 =>
    intro vals wq hRq hpq
    simp only [factsP, List.getD_cons_zero, List.getD_cons_succ] at hpq
    have f18 := hpq.1
    replace hpq := hpq.2
    have f25 := hpq.1
    replace hpq := hpq.2
    clear hpq
    replace f18 : vals 18 = _ := f18
    replace f25 : vals 25 = _ := f25
    simp only [List.getD_cons_zero, List.getD_cons_succ, canonP, f18, f25]
    clear f18 f25
    simp only [Oper.gives]
    go_simp
    exact ⟨is_mk _ _, (Touch.refl []) _⟩
  case o27 =>
    intro vals wq hRq hpq
    simp only [factsP, List.getD_cons_zero, List.getD_cons_succ] at hpq
    have f20 := hpq.1
    replace hpq := hpq.2
    have f26 := hpq.1
    replace hpq := hpq.2
    clear hpq
    replace f20 : vals 20 = _ := f20
    replace f26 : vals 26 = _ := f26
    simp only [List.getD_cons_zero, List.getD_cons_succ, canonP, f20, f26]
    clear f20 f26
    simp only [Oper.gives]
    go_simp
    exact ⟨is_mk _ _, (Touch.refl []) _⟩
  case o28 =>
    intro vals wq hRq hpq
    simp only [factsP, List.getD_cons_zero, List.getD_cons_succ] at hpq
    have f27 := hpq.1
    replace hpq := hpq.2
    clear hpq
    replace f27 : vals 27 = _ := f27
    simp only [List.getD_cons_zero, List.getD_cons_succ, canonP, f27]
    clear f27
    simp only [Oper.gives]
    go_simp
    exact ⟨is_mk _ _, (Touch.refl []) _⟩
  case o29 =>
    intro vals wq hRq hpq
    simp only [factsP, List.getD_cons_zero, List.getD_cons_succ] at hpq
    have f27 := hpq.1
    replace hpq := hpq.2
    have f28 := hpq.1
    replace hpq := hpq.2
    clear hpq
    replace f27 : vals 27 = _ := f27
    replace f28 : vals 28 = _ := f28
    simp only [List.getD_cons_zero, List.getD_cons_succ, canonP, f27, f28]
    clear f27 f28
    simp only [Oper.gives]
    go_simp
    exact (HC29.out wq ((Touch.drew [] W1).trans hRq (fun i hi => .inl hi))).mono fun e w' ⟨he, hg⟩ => ⟨_, he, is_mk _ _, hg ▸ Touch.refl _ _⟩
  case o30 =>
    intro vals wq hRq hpq
    simp only [factsP, List.getD_cons_zero, List.getD_cons_succ] at hpq
    have f27 := hpq.1
    replace hpq := hpq.2
    clear hpq
    replace f27 : vals 27 = _ := f27
    simp only [List.getD_cons_zero, List.getD_cons_succ, canonP, f27]
    clear f27
    simp only [Oper.gives]
    go_simp
    exact ⟨is_mk _ _, (Touch.refl []) _⟩
  case o31 =>
    intro vals wq hRq hpq
    simp only [factsP, List.getD_cons_zero, List.getD_cons_succ] at hpq
    have f27 := hpq.1
    replace hpq := hpq.2
    have f29 := hpq.1
    replace hpq := hpq.2
    have f30 := hpq.1
    replace hpq := hpq.2
    clear hpq
    replace f27 : vals 27 = _ := f27
    replace f29 : vals 29 = _ := f29
    replace f30 : vals 30 = _ := f30
    simp only [List.getD_cons_zero, List.getD_cons_succ, canonP, f27, f29, f30]
    clear f27 f29 f30
    simp only [Oper.gives]
    go_simp
    exact (HC31.out wq ((Touch.drew [] W1).trans hRq (fun i hi => .inl hi))).mono fun e w' ⟨he, hg⟩ => ⟨_, he, is_mk _ _, hg ▸ Touch.refl _ _⟩
  case o32 =>
    intro vals wq hRq hpq
    simp only [factsP, List.getD_cons_zero, List.getD_cons_succ] at hpq
    have f27 := hpq.1
    replace hpq := hpq.2
    have f29 := hpq.1
    replace hpq := hpq.2
    have f31 := hpq.1
    replace hpq := hpq.2
    clear hpq
    replace f27 : vals 27 = _ := f27
    replace f29 : vals 29 = _ := f29
    replace f31 : vals 31 = _ := f31
    simp only [List.getD_cons_zero, List.getD_cons_succ, canonP, f27, f29, f31]
    clear f27 f29 f31
    simp only [Oper.gives]
    go_simp
    exact ⟨is_mk _ _, (Touch.refl []) _⟩
  case o33 =>
    intro vals wq hRq hpq
    simp only [factsP, List.getD_cons_zero, List.getD_cons_succ] at hpq
    have f27 := hpq.1
    replace hpq := hpq.2
    have f32 := hpq.1
    replace hpq := hpq.2
    clear hpq
    replace f27 : vals 27 = _ := f27
    replace f32 : vals 32 = _ := f32
    simp only [List.getD_cons_zero, List.getD_cons_succ, canonP, f27, f32]
    clear f27 f32
    simp only [Oper.gives]
    go_simp
    exact ⟨is_mk _ _, (Touch.refl []) _⟩
  case o34 =>
    intro vals wq hRq hpq
    simp only [factsP, List.getD_cons_zero, List.getD_cons_succ] at hpq
    have f31 := hpq.1
    replace hpq := hpq.2
    have f33 := hpq.1
    replace hpq := hpq.2
    clear hpq
    replace f31 : vals 31 = _ := f31
    replace f33 : vals 33 = _ := f33
    simp only [List.getD_cons_zero, List.getD_cons_succ, canonP, f31, f33]
    clear f31 f33
    simp only [Oper.gives]
    go_simp
    exact ⟨is_mk _ _, (Touch.refl []) _⟩
  case o35 =>
    intro vals wq hRq hpq
    simp only [factsP, List.getD_cons_zero, List.getD_cons_succ] at hpq
    have f34 := hpq.1
    replace hpq := hpq.2
    clear hpq
    replace f34 : vals 34 = _ := f34
    simp only [List.getD_cons_zero, List.getD_cons_succ, canonP, f34]
    clear f34
    simp only [Oper.gives]
    go_simp
    exact ⟨is_mk _ _, (Touch.refl []) _⟩
  case o36 =>
    intro vals wq hRq hpq
    simp only [factsP, List.getD_cons_zero, List.getD_cons_succ] at hpq
    have f34 := hpq.1
    replace hpq := hpq.2
    have f35 := hpq.1
    replace hpq := hpq.2
    clear hpq
    replace f34 : vals 34 = _ := f34
    replace f35 : vals 35 = _ := f35
    simp only [List.getD_cons_zero, List.getD_cons_succ, canonP, f34, f35]
    clear f34 f35
    simp only [Oper.gives]
    go_simp
    exact (HC36.out wq ((Touch.drew [] W1).trans hRq (fun i hi => .inl hi))).mono fun e w' ⟨v, he, hr, hg⟩ => ⟨_, he, hr, Touch.of_below hg⟩
  case o37 =>
    intro vals wq hRq hpq
    simp only [factsP, List.getD_cons_zero, List.getD_cons_succ] at hpq
    have f34 := hpq.1
    replace hpq := hpq.2
    clear hpq
    replace f34 : vals 34 = _ := f34
    simp only [List.getD_cons_zero, List.getD_cons_succ, canonP, f34]
    clear f34
    simp only [Oper.gives]
    go_simp
    exact ⟨is_mk _ _, (Touch.refl []) _⟩
  case o38 =>
    intro vals wq hRq hpq
    simp only [factsP, List.getD_cons_zero, List.getD_cons_succ] at hpq
    have f34 := hpq.1
    replace hpq := hpq.2
    have f36 := hpq.1
    replace hpq := hpq.2
    have f37 := hpq.1
    replace hpq := hpq.2
    clear hpq
    replace f34 : vals 34 = _ := f34
    replace f37 : vals 37 = _ := f37
    simp only [List.getD_cons_zero, List.getD_cons_succ, canonP, f34, f37]
    clear f34 f37
    simp only [Oper.gives]
    go_simp
    exact (HC38.out wq ((Touch.drew [] W1).trans hRq (fun i hi => .inl hi))).mono fun e w' ⟨v, he, hr, hg⟩ => ⟨_, he, hr, Touch.of_below hg⟩
  case o39 =>
    intro vals wq hRq hpq
    simp only [factsP, List.getD_cons_zero, List.getD_cons_succ] at hpq
    have f34 := hpq.1
    replace hpq := hpq.2
    have f36 := hpq.1
    replace hpq := hpq.2
    have f38 := hpq.1
    replace hpq := hpq.2
    clear hpq
    replace f34 : vals 34 = _ := f34
    simp only [List.getD_cons_zero, List.getD_cons_succ, canonP, f34]
    clear f34
    simp only [Oper.gives]
    go_simp
    exact (same_yes f36 f38 HG1.out HG2.out).mono fun e w' ⟨he, hg⟩ => ⟨_, he, is_mk _ _, Touch.of_below hg⟩
  case o40 =>
    intro vals wq hRq hpq
    simp only [factsP, List.getD_cons_zero, List.getD_cons_succ] at hpq
    have f34 := hpq.1
    replace hpq := hpq.2
    have f39 := hpq.1
    replace hpq := hpq.2
    clear hpq
    replace f34 : vals 34 = _ := f34
    replace f39 : vals 39 = _ := f39
    simp only [List.getD_cons_zero, List.getD_cons_succ, canonP, f34, f39]
    clear f34 f39
    simp only [Oper.gives]
    go_simp
    exact ⟨is_mk _ _, (Touch.refl []) _⟩
  case o41 =>
    intro vals wq hRq hpq
    simp only [factsP, List.getD_cons_zero, List.getD_cons_succ] at hpq
    have f39 := hpq.1
    replace hpq := hpq.2
    have f40 := hpq.1
    replace hpq := hpq.2
    clear hpq
    replace f39 : vals 39 = _ := f39
    replace f40 : vals 40 = _ := f40
    simp only [List.getD_cons_zero, List.getD_cons_succ, canonP, f39, f40]
    clear f39 f40
    simp only [Oper.gives]
    go_simp
    exact ⟨is_mk _ _, (Touch.refl []) _⟩
  case o42 =>
    intro vals wq hRq hpq
    simp only [factsP, List.getD_cons_zero, List.getD_cons_succ] at hpq
    have f41 := hpq.1
    replace hpq := hpq.2
    clear hpq
    replace f41 : vals 41 = _ := f41
    simp only [List.getD_cons_zero, List.getD_cons_succ, canonP, f41]
    clear f41
    simp only [Oper.gives]
    go_simp
    exact ⟨is_mk _ _, (Touch.refl []) _⟩
  case o43 =>
    intro vals wq hRq hpq
    simp only [factsP, List.getD_cons_zero, List.getD_cons_succ] at hpq
    have f41 := hpq.1
    replace hpq := hpq.2
    have f42 := hpq.1
    replace hpq := hpq.2
    clear hpq
    replace f41 : vals 41 = _ := f41
    replace f42 : vals 42 = _ := f42
    simp only [List.getD_cons_zero, List.getD_cons_succ, canonP, f41, f42]
    clear f41 f42
    simp only [Oper.gives]
    go_simp
    exact (HC43.out wq ((Touch.drew [] W1).trans hRq (fun i hi => .inl hi))).mono fun e w' ⟨v, he, hr, hg⟩ => ⟨_, he, hr, Touch.of_below hg⟩
  case o44 =>
    intro vals wq hRq hpq
    simp only [factsP, List.getD_cons_zero, List.getD_cons_succ] at hpq
    have f41 := hpq.1
    replace hpq := hpq.2
    clear hpq
    replace f41 : vals 41 = _ := f41
    simp only [List.getD_cons_zero, List.getD_cons_succ, canonP, f41]
    clear f41
    simp only [Oper.gives]
    go_simp
    exact ⟨is_mk _ _, (Touch.refl []) _⟩
  case o45 =>
    intro vals wq hRq hpq
    simp only [factsP, List.getD_cons_zero, List.getD_cons_succ] at hpq
    have f41 := hpq.1
    replace hpq := hpq.2
    have f44 := hpq.1
    replace hpq := hpq.2
    clear hpq
    replace f41 : vals 41 = _ := f41
    replace f44 : vals 44 = _ := f44
    simp only [List.getD_cons_zero, List.getD_cons_succ, canonP, f41, f44]
    clear f41 f44
    simp only [Oper.gives]
    go_simp
    exact ⟨is_mk _ _, Touch.refl _ _⟩
  case o46 =>
    intro vals wq hRq hpq
    simp only [factsP, List.getD_cons_zero, List.getD_cons_succ] at hpq
    have f41 := hpq.1
    replace hpq := hpq.2
    have f45 := hpq.1
    replace hpq := hpq.2
    clear hpq
    replace f41 : vals 41 = _ := f41
    replace f45 : vals 45 = _ := f45
    simp only [List.getD_cons_zero, List.getD_cons_succ, canonP, f41, f45]
    clear f41 f45
    simp only [Oper.gives]
    go_simp
    exact ⟨is_mk _ _, Touch.refl _ _⟩
  case o47 =>
    intro vals wq hRq hpq
    simp only [factsP, List.getD_cons_zero, List.getD_cons_succ] at hpq
    have f41 := hpq.1
    replace hpq := hpq.2
    have f46 := hpq.1
    replace hpq := hpq.2
    clear hpq
    replace f41 : vals 41 = _ := f41
    replace f46 : vals 46 = _ := f46
    simp only [List.getD_cons_zero, List.getD_cons_succ, canonP, f41, f46]
    clear f41 f46
    have hcc : wq.cell? ⟨R, 0, none⟩ = some (.slice (some ⟨g, 0, none⟩) n c) := (hRq.cell (a := ⟨R, 0, none⟩) HLR.out (by simp)).trans HR0.out
    simp only [Oper.gives]
    go_simp
    exact ⟨is_mk _ _, Touch.refl _ _⟩
  case o48 =>
    intro vals wq hRq hpq
    simp only [factsP, List.getD_cons_zero, List.getD_cons_succ] at hpq
    have f41 := hpq.1
    replace hpq := hpq.2
    have f43 := hpq.1
    replace hpq := hpq.2
    have f47 := hpq.1
    replace hpq := hpq.2
    clear hpq
    replace f41 : vals 41 = _ := f41
    replace f47 : vals 47 = _ := f47
    simp only [List.getD_cons_zero, List.getD_cons_succ, canonP, f41, f47]
    clear f41 f47
    simp only [Oper.gives]
    go_simp
    exact (same_yes f43 (HRL.out.kept ((Touch.drew [] W1).trans hRq (fun i hi => .inl hi)) (by simp)) HL1.out HL2.out).mono fun e w' ⟨he, hg⟩ => ⟨_, he, is_mk _ _, Touch.of_below hg⟩
  case o49 =>
    intro vals wq hRq hpq
    simp only [factsP, List.getD_cons_zero, List.getD_cons_succ] at hpq
    have f41 := hpq.1
    replace hpq := hpq.2
    have f48 := hpq.1
    replace hpq := hpq.2
    clear hpq
    replace f41 : vals 41 = _ := f41
    replace f48 : vals 48 = _ := f48
    simp only [List.getD_cons_zero, List.getD_cons_succ, canonP, f41, f48]
    clear f41 f48
    simp only [Oper.gives]
    go_simp
    exact ⟨is_mk _ _, (Touch.refl []) _⟩
  case o50 =>
    intro vals wq hRq hpq
    simp only [factsP, List.getD_cons_zero, List.getD_cons_succ] at hpq
    have f0 := hpq.1
    replace hpq := hpq.2
    have f1 := hpq.1
    replace hpq := hpq.2
    have f2 := hpq.1
    replace hpq := hpq.2
    have f3 := hpq.1
    replace hpq := hpq.2
    have f4 := hpq.1
    replace hpq := hpq.2
    have f5 := hpq.1
    replace hpq := hpq.2
    have f6 := hpq.1
    replace hpq := hpq.2
    have f7 := hpq.1
    replace hpq := hpq.2
    have f8 := hpq.1
    replace hpq := hpq.2
    have f9 := hpq.1
    replace hpq := hpq.2
    have f10 := hpq.1
    replace hpq := hpq.2
    have f11 := hpq.1
    replace hpq := hpq.2
    have f12 := hpq.1
    replace hpq := hpq.2
    have f13 := hpq.1
    replace hpq := hpq.2
    have f14 := hpq.1
    replace hpq := hpq.2
    have f15 := hpq.1
    replace hpq := hpq.2
    have f16 := hpq.1
    replace hpq := hpq.2
    have f17 := hpq.1
    replace hpq := hpq.2
    have f18 := hpq.1
    replace hpq := hpq.2
    have f19 := hpq.1
    replace hpq := hpq.2
    have f20 := hpq.1
    replace hpq := hpq.2
    have f21 := hpq.1
    replace hpq := hpq.2
    have f22 := hpq.1
    replace hpq := hpq.2
    have f23 := hpq.1
    replace hpq := hpq.2
    have f24 := hpq.1
    replace hpq := hpq.2
    have f25 := hpq.1
    replace hpq := hpq.2
    have f26 := hpq.1
    replace hpq := hpq.2
    have f27 := hpq.1
    replace hpq := hpq.2
    have f28 := hpq.1
    replace hpq := hpq.2
    have f29 := hpq.1
    replace hpq := hpq.2
    have f30 := hpq.1
    replace hpq := hpq.2
    have f31 := hpq.1
    replace hpq := hpq.2
    have f32 := hpq.1
    replace hpq := hpq.2
    have f33 := hpq.1
    replace hpq := hpq.2
    have f34 := hpq.1
    replace hpq := hpq.2
    have f35 := hpq.1
    replace hpq := hpq.2
    have f36 := hpq.1
    replace hpq := hpq.2
    have f37 := hpq.1
    replace hpq := hpq.2
    have f38 := hpq.1
    replace hpq := hpq.2
    have f39 := hpq.1
    replace hpq := hpq.2
    have f40 := hpq.1
    replace hpq := hpq.2
    have f41 := hpq.1
    replace hpq := hpq.2
    have f42 := hpq.1
    replace hpq := hpq.2
    have f43 := hpq.1
    replace hpq := hpq.2
    have f44 := hpq.1
    replace hpq := hpq.2
    have f45 := hpq.1
    replace hpq := hpq.2
    have f46 := hpq.1
    replace hpq := hpq.2
    have f47 := hpq.1
    replace hpq := hpq.2
    have f48 := hpq.1
    replace hpq := hpq.2
    have f49 := hpq.1
    replace hpq := hpq.2
    clear hpq
    replace f0 : vals 0 = _ := f0
    replace f1 : vals 1 = _ := f1
    replace f2 : vals 2 = _ := f2
    replace f3 : vals 3 = _ := f3
    replace f4 : vals 4 = _ := f4
    replace f5 : vals 5 = _ := f5
    replace f6 : vals 6 = _ := f6
    replace f7 : vals 7 = _ := f7
    replace f8 : vals 8 = _ := f8
    replace f9 : vals 9 = _ := f9
    replace f10 : vals 10 = _ := f10
    replace f11 : vals 11 = _ := f11
    replace f12 : vals 12 = _ := f12
    replace f13 : vals 13 = _ := f13
    replace f14 : vals 14 = _ := f14
    replace f15 : vals 15 = _ := f15
    replace f16 : vals 16 = _ := f16
    replace f17 : vals 17 = _ := f17
    replace f18 : vals 18 = _ := f18
    replace f19 : vals 19 = _ := f19
    replace f20 : vals 20 = _ := f20
    replace f21 : vals 21 = _ := f21
    replace f22 : vals 22 = _ := f22
    replace f23 : vals 23 = _ := f23
    replace f24 : vals 24 = _ := f24
    replace f25 : vals 25 = _ := f25
    replace f26 : vals 26 = _ := f26
    replace f27 : vals 27 = _ := f27
    replace f28 : vals 28 = _ := f28
    replace f29 : vals 29 = _ := f29
    replace f30 : vals 30 = _ := f30
    replace f31 : vals 31 = _ := f31
    replace f32 : vals 32 = _ := f32
    replace f33 : vals 33 = _ := f33
    replace f34 : vals 34 = _ := f34
    replace f35 : vals 35 = _ := f35
    replace f37 : vals 37 = _ := f37
    replace f39 : vals 39 = _ := f39
    replace f40 : vals 40 = _ := f40
    replace f41 : vals 41 = _ := f41
    replace f42 : vals 42 = _ := f42
    replace f44 : vals 44 = _ := f44
    replace f45 : vals 45 = _ := f45
    replace f46 : vals 46 = _ := f46
    replace f47 : vals 47 = _ := f47
    replace f48 : vals 48 = _ := f48
    replace f49 : vals 49 = _ := f49
    simp only [List.getD_cons_zero, List.getD_cons_succ, canonP, f0, f1, f2, f3, f4, f5, f6, f7, f8, f9, f10, f11, f12, f13, f14, f15, f16, f17, f18, f19, f20, f21, f22, f23, f24, f25, f26, f27, f28, f29, f30, f31, f32, f33, f34, f35, f37, f39, f40, f41, f42, f44, f45, f46, f47, f48, f49]
    clear f0 f1 f2 f3 f4 f5 f6 f7 f8 f9 f10 f11 f12 f13 f14 f15 f16 f17 f18 f19 f20 f21 f22 f23 f24 f25 f26 f27 f28 f29 f30 f31 f32 f33 f34 f35 f37 f39 f40 f41 f42 f44 f45 f46 f47 f48 f49
    simp only [Oper.gives]
    go_simp
    exact ⟨is_mk _ _, (Touch.refl []) _⟩
  intro vals wz hRwz hfwz
  simp only [AllFacts] at hfwz
  have g0 := hfwz.1
  replace hfwz := hfwz.2
  have g1 := hfwz.1
  replace hfwz := hfwz.2
  have g2 := hfwz.1
  replace hfwz := hfwz.2
  have g3 := hfwz.1
  replace hfwz := hfwz.2
  have g4 := hfwz.1
  replace hfwz := hfwz.2
  have g5 := hfwz.1
  replace hfwz := hfwz.2
  have g6 := hfwz.1
  replace hfwz := hfwz.2
  have g7 := hfwz.1
  replace hfwz := hfwz.2
  have g8 := hfwz.1
  replace hfwz := hfwz.2
  have g9 := hfwz.1
  replace hfwz := hfwz.2
  have g10 := hfwz.1
  replace hfwz := hfwz.2
  have g11 := hfwz.1
  replace hfwz := hfwz.2
  have g12 := hfwz.1
  replace hfwz := hfwz.2
  have g13 := hfwz.1
  replace hfwz := hfwz.2
  have g14 := hfwz.1
  replace hfwz := hfwz.2
  have g15 := hfwz.1
  replace hfwz := hfwz.2
  have g16 := hfwz.1
  replace hfwz := hfwz.2
  have g17 := hfwz.1
  replace hfwz := hfwz.2
  have g18 := hfwz.1
  replace hfwz := hfwz.2
  have g19 := hfwz.1
  replace hfwz := hfwz.2
  have g20 := hfwz.1
  replace hfwz := hfwz.2
  have g21 := hfwz.1
  replace hfwz := hfwz.2
  have g22 := hfwz.1
  replace hfwz := hfwz.2
  have g23 := hfwz.1
  replace hfwz := hfwz.2
  have g24 := hfwz.1
  replace hfwz := hfwz.2
  have g25 := hfwz.1
  replace hfwz := hfwz.2
  have g26 := hfwz.1
  replace hfwz := hfwz.2
  have g27 := hfwz.1
  replace hfwz := hfwz.2
  have g28 := hfwz.1
  replace hfwz := hfwz.2
  have g29 := hfwz.1
  replace hfwz := hfwz.2
  have g30 := hfwz.1
  replace hfwz := hfwz.2
  have g31 := hfwz.1
  replace hfwz := hfwz.2
  have g32 := hfwz.1
  replace hfwz := hfwz.2
  have g33 := hfwz.1
  replace hfwz := hfwz.2
  have g34 := hfwz.1
  replace hfwz := hfwz.2
  have g35 := hfwz.1
  replace hfwz := hfwz.2
  have g36 := hfwz.1
  replace hfwz := hfwz.2
  have g37 := hfwz.1
  replace hfwz := hfwz.2
  have g38 := hfwz.1
  replace hfwz := hfwz.2
  have g39 := hfwz.1
  replace hfwz := hfwz.2
  have g40 := hfwz.1
  replace hfwz := hfwz.2
  have g41 := hfwz.1
  replace hfwz := hfwz.2
  have g42 := hfwz.1
  replace hfwz := hfwz.2
  have g43 := hfwz.1
  replace hfwz := hfwz.2
  have g44 := hfwz.1
  replace hfwz := hfwz.2
  have g45 := hfwz.1
  replace hfwz := hfwz.2
  have g46 := hfwz.1
  replace hfwz := hfwz.2
  have g47 := hfwz.1
  replace hfwz := hfwz.2
  have g48 := hfwz.1
  replace hfwz := hfwz.2
  have g49 := hfwz.1
  replace hfwz := hfwz.2
  have g50 := hfwz.1
  replace hfwz := hfwz.2
  clear hfwz
  replace g0 : vals 0 = _ := g0
  replace g1 : vals 1 = _ := g1
  replace g2 : vals 2 = _ := g2
  replace g3 : vals 3 = _ := g3
  replace g4 : vals 4 = _ := g4
  replace g5 : vals 5 = _ := g5
  replace g6 : vals 6 = _ := g6
  replace g7 : vals 7 = _ := g7
  replace g8 : vals 8 = _ := g8
  replace g9 : vals 9 = _ := g9
  replace g10 : vals 10 = _ := g10
  replace g11 : vals 11 = _ := g11
  replace g12 : vals 12 = _ := g12
  replace g13 : vals 13 = _ := g13
  replace g14 : vals 14 = _ := g14
  replace g15 : vals 15 = _ := g15
  replace g16 : vals 16 = _ := g16
  replace g17 : vals 17 = _ := g17
  replace g18 : vals 18 = _ := g18
  replace g19 : vals 19 = _ := g19
  replace g20 : vals 20 = _ := g20
  replace g21 : vals 21 = _ := g21
  replace g22 : vals 22 = _ := g22
  replace g23 : vals 23 = _ := g23
  replace g24 : vals 24 = _ := g24
  replace g25 : vals 25 = _ := g25
  replace g26 : vals 26 = _ := g26
  replace g27 : vals 27 = _ := g27
  replace g28 : vals 28 = _ := g28
  replace g29 : vals 29 = _ := g29
  replace g30 : vals 30 = _ := g30
  replace g31 : vals 31 = _ := g31
  replace g32 : vals 32 = _ := g32
  replace g33 : vals 33 = _ := g33
  replace g34 : vals 34 = _ := g34
  replace g35 : vals 35 = _ := g35
  replace g37 : vals 37 = _ := g37
  replace g39 : vals 39 = _ := g39
  replace g40 : vals 40 = _ := g40
  replace g41 : vals 41 = _ := g41
  replace g42 : vals 42 = _ := g42
  replace g44 : vals 44 = _ := g44
  replace g45 : vals 45 = _ := g45
  replace g46 : vals 46 = _ := g46
  replace g47 : vals 47 = _ := g47
  replace g48 : vals 48 = _ := g48
  replace g49 : vals 49 = _ := g49
  replace g50 : vals 50 = _ := g50
  simp only [canonP, Act.put, List.setIfInBounds_toArray, List.set_cons_succ, List.set_cons_zero, g0, g1, g2, g3, g4, g5, g6, g7, g8, g9, g10, g11, g12, g13, g14, g15, g16, g17, g18, g19, g20, g21, g22, g23, g24, g25, g26, g27, g28, g29, g30, g31, g32, g33, g34, g35, g37, g39, g40, g41, g42, g44, g45, g46, g47, g48, g49, g50]
  clear g0 g1 g2 g3 g4 g5 g6 g7 g8 g9 g10 g11 g12 g13 g14 g15 g16 g17 g18 g19 g20 g21 g22 g23 g24 g25 g26 g27 g28 g29 g30 g31 g32 g33 g34 g35 g36 g37 g38 g39 g40 g41 g42 g43 g44 g45 g46 g47 g48 g49 g50
  exact HK.out _ _ _ _ _ _ _ _ _ _ _ _ _ _ _ _ _ _ _ _ _ _ _ _ _ _ _ _ _ _ _ _ _ _ _ _ _ _ _ _ _ _ _ _ _ _ _ _ _ _ _ ((Touch.drew [] W1).trans hRwz (fun i hi => .inl hi))
#print axioms alike_reg
end Go.Proofs.Ytkcbjhdklenlbaa
