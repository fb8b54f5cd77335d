/- The law RevokePlays: its regions. -/
import Derived.Test.YtbpejjgjjjmlkaaR21
set_option linter.unusedVariables false
set_option linter.unusedSimpArgs false
namespace Go.Proofs.Ytbpejjgjjjmlkaa
open Go.RowKit

noncomputable def plays10Code : Code := regById 10 (codesOf (Try.f5.body.getD .skip))
set_option maxRecDepth 100000 in
set_option maxHeartbeats 2000000 in
theorem plays10_reg (B bm R k : Nat) (vl : Value) (m m' : List Rc) (y : Addr) (n cap i s : Nat) (q b : Int) (W1 : World) (HT : Hid (Both W1 B bm R k vl m)) (HP0 : Hid (W1.cell? (y.add (i * 3)) = some (.int .u8 q))) (HP1 : Hid (W1.cell? ((y.add (i * 3)).add 1) = some (.int .i64 b))) (HP2 : Hid (W1.cell? ((y.add (i * 3)).add 2) = some (.int .u32 (s : Int)))) (HPL : Hid (y.block < W1.heap.size)) (HPS : Hid (y.block ∉ [bm, R])) (hi : i < n)
    (HC : Hid (∀ wq, Both wq B bm R k vl m → Calls Try.prog 15 #[.pointer (some ⟨B, 0, none⟩), .pointer (some ⟨R, 0, none⟩), .agg #[.int .u8 q, .int .i64 b, .int .u32 (s : Int)]] wq (DoesPost B bm R k m' wq)))
    (c1 c2 c3 c4 c5 c6 c10 c11 c12 c13 c14 c15 c16 c17 c18 c19 c20 c21 c22 c23 c24 c25 c26 c27 c28 c29 c30 c31 c32 c33 c34 c35 c36 c37 c38 c39 c40 c41 c42 c43 c44 c45 c46 c47 c48 c49 c50 c51 c52 c53 c54 c55 c56 c57 c58 c59 c60 c61 c62 c63 c64 c65 c66 c67 c68 c69 c70 c71 c72 c73 c74 c75 c76 c77 c78 c79 c80 c81 c82 c83 c84 c85 c86 c87 c88 c89 c90 c91 c92 c93 c94 c95 c96 c97 c98 c99 c100 c101 c102 c103 c104 c105 c106 c107 c108 c109 c110 c111 c112 c113 c114 c115 c116 c117 c118 c119 c120 c121 c122 c123 : Value) (Q : Exit → Act → World → Prop) (HK : Hid (∀ u28 u29 u30 u31 u32 u33 u34 u35 u36 u37 u38 u39 u40 u41 u42 u43 u44 wz, Touch [bm, R] W1 wz → (∃ vl', Both wz B bm R (k + 1) vl' m') → Q .normal ⟨(.slice (some y) n cap :: c1 :: c2 :: c3 :: c4 :: c5 :: c6 :: .pointer (some ⟨B, 0, none⟩) :: .pointer (some ⟨R, 0, none⟩) :: .int .i64 (i : Int) :: c10 :: c11 :: c12 :: c13 :: c14 :: c15 :: c16 :: c17 :: c18 :: c19 :: c20 :: c21 :: c22 :: c23 :: c24 :: c25 :: c26 :: c27 :: u28 :: u29 :: u30 :: u31 :: u32 :: u33 :: u34 :: u35 :: u36 :: u37 :: u38 :: u39 :: u40 :: u41 :: u42 :: u43 :: u44 :: .bool false :: c46 :: c47 :: c48 :: c49 :: c50 :: c51 :: c52 :: c53 :: c54 :: c55 :: c56 :: c57 :: c58 :: c59 :: c60 :: c61 :: c62 :: c63 :: c64 :: c65 :: c66 :: c67 :: c68 :: c69 :: c70 :: c71 :: c72 :: c73 :: c74 :: c75 :: c76 :: c77 :: c78 :: c79 :: c80 :: c81 :: c82 :: c83 :: c84 :: c85 :: c86 :: c87 :: c88 :: c89 :: c90 :: c91 :: c92 :: c93 :: c94 :: c95 :: c96 :: c97 :: c98 :: c99 :: c100 :: c101 :: c102 :: c103 :: c104 :: c105 :: c106 :: c107 :: c108 :: c109 :: c110 :: c111 :: c112 :: c113 :: c114 :: c115 :: c116 :: c117 :: c118 :: c119 :: c120 :: c121 :: c122 :: c123 :: []).toArray, []⟩ wz)) : plays10Code.wp Try.prog Q ⟨(.slice (some y) n cap :: c1 :: c2 :: c3 :: c4 :: c5 :: c6 :: .pointer (some ⟨B, 0, none⟩) :: .pointer (some ⟨R, 0, none⟩) :: .int .i64 (i : Int) :: c10 :: c11 :: c12 :: c13 :: c14 :: c15 :: c16 :: c17 :: c18 :: c19 :: c20 :: c21 :: c22 :: c23 :: c24 :: c25 :: c26 :: c27 :: c28 :: c29 :: c30 :: c31 :: c32 :: c33 :: c34 :: c35 :: c36 :: c37 :: c38 :: c39 :: c40 :: c41 :: c42 :: c43 :: c44 :: c45 :: c46 :: c47 :: c48 :: c49 :: c50 :: c51 :: c52 :: c53 :: c54 :: c55 :: c56 :: c57 :: c58 :: c59 :: c60 :: c61 :: c62 :: c63 :: c64 :: c65 :: c66 :: c67 :: c68 :: c69 :: c70 :: c71 :: c72 :: c73 :: c74 :: c75 :: c76 :: c77 :: c78 :: c79 :: c80 :: c81 :: c82 :: c83 :: c84 :: c85 :: c86 :: c87 :: c88 :: c89 :: c90 :: c91 :: c92 :: c93 :: c94 :: c95 :: c96 :: c97 :: c98 :: c99 :: c100 :: c101 :: c102 :: c103 :: c104 :: c105 :: c106 :: c107 :: c108 :: c109 :: c110 :: c111 :: c112 :: c113 :: c114 :: c115 :: c116 :: c117 :: c118 :: c119 :: c120 :: c121 :: c122 :: c123 :: []).toArray, []⟩ W1 := by
  have HB0 := Lib.hid (show (0 : Int) ≤ (i : Int) by omega)
  have HB1 := Lib.hid (show (i : Int) < (n : Int) by omega)
  have HN0 := Lib.hid (show ∀ p ∈ ([(6, fun wx => Both wx B bm R k vl m)] : List (Nat × (World → Prop))), p.2 W1.drew by
    intro p hp
    rw [List.mem_singleton] at hp
    subst hp
    exact HT.out.kept0 (Touch.drew [] W1))
  conv => arg 2; whnf
  refine wp_region_factsN [6, 8] [(6, fun wx => Both wx B bm R k vl m)] (by kernel_rfl) [[], [], [], [], [(2, some 30), (3, some 31)], [(4, some 32)], [(0, some 28), (1, some 29), (5, some 33)], [(6, some 34)], [(6, some 34), (7, some 35)], [(8, some 36)], [(8, some 36), (9, some 37)], [(8, some 36)], [(8, some 36), (11, some 39)], [(8, some 36), (12, some 40)], [(8, some 36), (13, some 41)], [(8, some 36), (14, some 42)], [(8, some 36), (10, some 38), (15, some 43)], [(8, some 36), (16, some 44)]] [(0, some 28), (1, some 29), (2, some 30), (3, some 31), (4, some 32), (5, some 33), (6, some 34), (7, some 35), (8, some 36), (9, some 37), (10, some 38), (11, some 39), (12, some 40), (13, some 41), (14, some 42), (15, some 43), (16, some 44), (17, some 45)] (by kernel_rfl) (by kernel_rfl) (by kernel_rfl) (Touch [bm, R]) (Touch.refl [bm, R]) (fun _ _ _ h h' => h.trans h' (fun i hi => .inl hi)) [Is (Value.pointer (some ⟨B, 0, none⟩)), Is (Value.pointer (some ⟨R, 0, none⟩)), Is (Value.slice (some y) n cap), Is (Value.int .i64 (i : Int)), Is (Value.pointer (some (y.add (i * 3)))), Is (Value.agg #[.int .u8 q, .int .i64 b, .int .u32 (s : Int)]), (fun v wx => v = .bool true ∧ ∃ vl', Both wx B bm R (k + 1) vl' m'), Is (Value.bool false), (fun v wx => v = .bool false ∧ ∃ vl', Both wx B bm R (k + 1) vl' m'), Is (Value.pointer (some ⟨B, 0, none⟩)), Is (Value.int .i64 (m'.length : Int)), Is (Value.pointer (some ⟨R, 0, none⟩)), Is (Value.pointer (some ⟨R, 0, none⟩)), Is (Value.pointer (some ⟨R, 0, none⟩)), (fun v wx => ∃ a c, v = .slice a m'.length c), Is (Value.int .i64 (m'.length : Int)), Is (Value.bool false), Is (Value.bool false)] rfl ⟨.inr (is_stab _ _), .inr (is_stab _ _), .inr (is_stab _ _), .inr (is_stab _ _), .inr (is_stab _ _), .inr (is_stab _ _), .inl (by simp), .inr (is_stab _ _), .inl (by simp), .inr (is_stab _ _), .inr (is_stab _ _), .inr (is_stab _ _), .inr (is_stab _ _), .inr (is_stab _ _), .inr (fun v w w' h1 h2 => by first | exact h1 | exact h2), .inr (is_stab _ _), .inr (is_stab _ _), .inr (is_stab _ _), trivial⟩ HN0.out ⟨?o0, ?o1, ?o2, ?o3, ?o4, ?o5, ?o6, ?o7, ?o8, ?o9, ?o10, ?o11, ?o12, ?o13, ?o14, ?o15, ?o16, ?o17, trivial⟩ ?_
  case o0 =>
    intro vals wq hRq hNq hpq
    simp only [List.getD_cons_zero, List.getD_cons_succ, canonP]
    try simp only [f8.1]
    simp only [Oper.gives]
    go_simp
    first | exact ⟨is_mk _ _, Touch.refl _ _⟩ | (refine ⟨is_mk _ _, Touch.refl _ _, ?_⟩; repeat' first | assumption | exact ⟨_, by assumption⟩ | refine And.intro ?_ ?_ | intro _)
  case o1 =>
    intro vals wq hRq hNq hpq
    simp only [List.getD_cons_zero, List.getD_cons_succ, canonP]
    try simp only [f8.1]
    simp only [Oper.gives]
    go_simp
    first | exact ⟨is_mk _ _, Touch.refl _ _⟩ | (refine ⟨is_mk _ _, Touch.refl _ _, ?_⟩; repeat' first | assumption | exact ⟨_, by assumption⟩ | refine And.intro ?_ ?_ | intro _)
  case o2 =>
    intro vals wq hRq hNq hpq
    simp only [List.getD_cons_zero, List.getD_cons_succ, canonP]
    try simp only [f8.1]
    simp only [Oper.gives]
    go_simp
    first | exact ⟨is_mk _ _, Touch.refl _ _⟩ | (refine ⟨is_mk _ _, Touch.refl _ _, ?_⟩; repeat' first | assumption | exact ⟨_, by assumption⟩ | refine And.intro ?_ ?_ | intro _)
  case o3 =>
    intro vals wq hRq hNq hpq
    simp only [List.getD_cons_zero, List.getD_cons_succ, canonP]
    try simp only [f8.1]
    simp only [Oper.gives]
    go_simp
    first | exact ⟨is_mk _ _, Touch.refl _ _⟩ | (refine ⟨is_mk _ _, Touch.refl _ _, ?_⟩; repeat' first | assumption | exact ⟨_, by assumption⟩ | refine And.intro ?_ ?_ | intro _)
  case o4 =>
    intro vals wq hRq hNq hpq
    simp only [factsP, List.getD_cons_zero, List.getD_cons_succ] at hpq
    have f2 := hpq.1
    replace hpq := hpq.2
    have f3 := hpq.1
    replace hpq := hpq.2
    clear hpq
    replace f2 : vals 2 = _ := f2
    replace f3 : vals 3 = _ := f3
    simp only [List.getD_cons_zero, List.getD_cons_succ, canonP, f2, f3]
    clear f2 f3
    have b0 := HB0.out
    have b1 := HB1.out
    simp only [Oper.gives]
    go_simp
    first | exact ⟨is_mk _ _, Touch.refl _ _⟩ | (refine ⟨is_mk _ _, Touch.refl _ _, ?_⟩; repeat' first | assumption | exact ⟨_, by assumption⟩ | refine And.intro ?_ ?_ | intro _)
  case o5 =>
    intro vals wq hRq hNq hpq
    simp only [factsP, List.getD_cons_zero, List.getD_cons_succ] at hpq
    have f4 := hpq.1
    replace hpq := hpq.2
    clear hpq
    replace f4 : vals 4 = _ := f4
    simp only [List.getD_cons_zero, List.getD_cons_succ, canonP, f4]
    clear f4
    have hcc0 : wq.cell? (y.add (i * 3)) = some (.int .u8 q) := (hRq.cell (a := y.add (i * 3)) (by simp only [add_block]; exact HPL.out) (by simp only [add_block]; exact HPS.out)).trans HP0.out
    have hcc1 : wq.cell? ⟨(y.add (i * 3)).block, (y.add (i * 3)).off + 1, none⟩ = some (.int .i64 b) := (hRq.cell (a := (y.add (i * 3)).add 1) (by simp only [add_block]; exact HPL.out) (by simp only [add_block]; exact HPS.out)).trans HP1.out
    have hcc2 : wq.cell? ⟨(y.add (i * 3)).block, (y.add (i * 3)).off + 2, none⟩ = some (.int .u32 (s : Int)) := (hRq.cell (a := (y.add (i * 3)).add 2) (by simp only [add_block]; exact HPL.out) (by simp only [add_block]; exact HPS.out)).trans HP2.out
    simp only [Oper.gives]
    go_simp
    first | exact ⟨is_mk _ _, Touch.refl _ _⟩ | (refine ⟨is_mk _ _, Touch.refl _ _, ?_⟩; repeat' first | assumption | exact ⟨_, by assumption⟩ | refine And.intro ?_ ?_ | intro _)
  case o6 =>
    intro vals wq hRq hNq hpq
    simp only [factsP, List.getD_cons_zero, List.getD_cons_succ] at hpq
    have f0 := hpq.1
    replace hpq := hpq.2
    have f1 := hpq.1
    replace hpq := hpq.2
    have f5 := hpq.1
    replace hpq := hpq.2
    clear hpq
    replace f0 : vals 0 = _ := f0
    replace f1 : vals 1 = _ := f1
    replace f5 : vals 5 = _ := f5
    simp only [List.getD_cons_zero, List.getD_cons_succ, canonP, f0, f1, f5]
    clear f0 f1 f5
    have htt : Both wq B bm R k vl m := hNq (6, fun wx => Both wx B bm R k vl m) (List.Mem.head _) rfl
    simp only [Oper.gives]
    go_simp
    refine (HC.out wq htt).mono ?_
    intro e w' hh
    exact ⟨_, hh.1, ⟨rfl, hh.2.1⟩, hh.2.2⟩
  case o7 =>
    intro vals wq hRq hNq hpq
    simp only [factsP, List.getD_cons_zero, List.getD_cons_succ] at hpq
    have f6 := hpq.1
    replace hpq := hpq.2
    clear hpq
    simp only [List.getD_cons_zero, List.getD_cons_succ, canonP]
    simp only [f6.1]
    simp only [Oper.gives]
    go_simp
    first | exact ⟨is_mk _ _, Touch.refl _ _⟩ | (refine ⟨is_mk _ _, Touch.refl _ _, ?_⟩; repeat' first | assumption | exact ⟨_, by assumption⟩ | refine And.intro ?_ ?_ | intro _)
  case o8 =>
    intro vals wq hRq hNq hpq
    simp only [factsP, List.getD_cons_zero, List.getD_cons_succ] at hpq
    have f6 := hpq.1
    replace hpq := hpq.2
    have f7 := hpq.1
    replace hpq := hpq.2
    clear hpq
    replace f7 : vals 7 = _ := f7
    simp only [List.getD_cons_zero, List.getD_cons_succ, canonP, f7]
    clear f7
    try simp only [f6.1]
    simp only [Oper.gives]
    go_simp
    have h6 := f6.2
    repeat' first | assumption | exact rfl | exact Touch.refl _ _ | exact ⟨_, _, rfl⟩ | exact ⟨_, by assumption⟩ | refine And.intro ?_ ?_ | intro _
  case o9 =>
    intro vals wq hRq hNq hpq
    simp only [factsP, List.getD_cons_zero, List.getD_cons_succ] at hpq
    have f8 := hpq.1
    replace hpq := hpq.2
    clear hpq
    simp only [List.getD_cons_zero, List.getD_cons_succ, canonP]
    try simp only [f8.1]
    simp only [Oper.gives]
    go_simp
    first | exact ⟨is_mk _ _, Touch.refl _ _⟩ | (refine ⟨is_mk _ _, Touch.refl _ _, ?_⟩; repeat' first | assumption | exact ⟨_, by assumption⟩ | refine And.intro ?_ ?_ | intro _)
  case o10 =>
    intro vals wq hRq hNq hpq
    simp only [factsP, List.getD_cons_zero, List.getD_cons_succ] at hpq
    have f8 := hpq.1
    replace hpq := hpq.2
    have f9 := hpq.1
    replace hpq := hpq.2
    clear hpq
    replace f9 : vals 9 = _ := f9
    simp only [List.getD_cons_zero, List.getD_cons_succ, canonP, f9]
    clear f9
    obtain ⟨e8, vl', h8⟩ := f8
    try simp only [e8]
    simp only [Oper.gives]
    go_simp
    refine (len_ok h8.tab).mono ?_
    rintro e w' ⟨he, rfl⟩
    refine ⟨_, he, is_mk _ _, Touch.refl _ _, ?_⟩
    repeat' first | assumption | exact ⟨_, by assumption⟩ | refine And.intro ?_ ?_ | intro _
  case o11 =>
    intro vals wq hRq hNq hpq
    simp only [factsP, List.getD_cons_zero, List.getD_cons_succ] at hpq
    have f8 := hpq.1
    replace hpq := hpq.2
    clear hpq
    simp only [List.getD_cons_zero, List.getD_cons_succ, canonP]
    try simp only [f8.1]
    simp only [Oper.gives]
    go_simp
    first | exact ⟨is_mk _ _, Touch.refl _ _⟩ | (refine ⟨is_mk _ _, Touch.refl _ _, ?_⟩; repeat' first | assumption | exact ⟨_, by assumption⟩ | refine And.intro ?_ ?_ | intro _)
  case o12 =>
    intro vals wq hRq hNq hpq
    simp only [factsP, List.getD_cons_zero, List.getD_cons_succ] at hpq
    have f8 := hpq.1
    replace hpq := hpq.2
    have f11 := hpq.1
    replace hpq := hpq.2
    clear hpq
    replace f11 : vals 11 = _ := f11
    simp only [List.getD_cons_zero, List.getD_cons_succ, canonP, f11]
    clear f11
    try simp only [f8.1]
    simp only [Oper.gives]
    go_simp
    first | exact ⟨is_mk _ _, Touch.refl _ _⟩ | (refine ⟨is_mk _ _, Touch.refl _ _, ?_⟩; repeat' first | assumption | exact ⟨_, by assumption⟩ | refine And.intro ?_ ?_ | intro _)
  case o13 =>
    intro vals wq hRq hNq hpq
    simp only [factsP, List.getD_cons_zero, List.getD_cons_succ] at hpq
    have f8 := hpq.1
    replace hpq := hpq.2
    have f12 := hpq.1
    replace hpq := hpq.2
    clear hpq
    replace f12 : vals 12 = _ := f12
    simp only [List.getD_cons_zero, List.getD_cons_succ, canonP, f12]
    clear f12
    try simp only [f8.1]
    simp only [Oper.gives]
    go_simp
    first | exact ⟨is_mk _ _, Touch.refl _ _⟩ | (refine ⟨is_mk _ _, Touch.refl _ _, ?_⟩; repeat' first | assumption | exact ⟨_, by assumption⟩ | refine And.intro ?_ ?_ | intro _)
  case o14 =>
    intro vals wq hRq hNq hpq
    simp only [factsP, List.getD_cons_zero, List.getD_cons_succ] at hpq
    have f8 := hpq.1
    replace hpq := hpq.2
    have f13 := hpq.1
    replace hpq := hpq.2
    clear hpq
    replace f13 : vals 13 = _ := f13
    simp only [List.getD_cons_zero, List.getD_cons_succ, canonP, f13]
    clear f13
    obtain ⟨e8, vl', h8⟩ := f8
    have hcc := h8.rtab.cell
    obtain ⟨a1, c1, hvl⟩ := h8.rtab.row.len
    rw [List.length_map] at hvl
    subst hvl
    try simp only [e8]
    simp only [Oper.gives]
    go_simp
    repeat' first | assumption | exact rfl | exact Touch.refl _ _ | exact ⟨_, _, rfl⟩ | exact ⟨_, by assumption⟩ | refine And.intro ?_ ?_ | intro _
  case o15 =>
    intro vals wq hRq hNq hpq
    simp only [factsP, List.getD_cons_zero, List.getD_cons_succ] at hpq
    have f8 := hpq.1
    replace hpq := hpq.2
    have f14 := hpq.1
    replace hpq := hpq.2
    clear hpq
    simp only [List.getD_cons_zero, List.getD_cons_succ, canonP]
    obtain ⟨a1, c1, e14⟩ := f14
    have e8 := f8.1
    simp only [e8, e14]
    simp only [Oper.gives]
    go_simp
    first | exact ⟨is_mk _ _, Touch.refl _ _⟩ | (refine ⟨is_mk _ _, Touch.refl _ _, ?_⟩; repeat' first | assumption | exact ⟨_, by assumption⟩ | refine And.intro ?_ ?_ | intro _)
  case o16 =>
    intro vals wq hRq hNq hpq
    simp only [factsP, List.getD_cons_zero, List.getD_cons_succ] at hpq
    have f8 := hpq.1
    replace hpq := hpq.2
    have f10 := hpq.1
    replace hpq := hpq.2
    have f15 := hpq.1
    replace hpq := hpq.2
    clear hpq
    replace f10 : vals 10 = _ := f10
    replace f15 : vals 15 = _ := f15
    simp only [List.getD_cons_zero, List.getD_cons_succ, canonP, f10, f15]
    clear f10 f15
    try simp only [f8.1]
    simp only [Oper.gives]
    go_simp
    first | exact ⟨is_mk _ _, Touch.refl _ _⟩ | (refine ⟨is_mk _ _, Touch.refl _ _, ?_⟩; repeat' first | assumption | exact ⟨_, by assumption⟩ | refine And.intro ?_ ?_ | intro _)
  case o17 =>
    intro vals wq hRq hNq hpq
    simp only [factsP, List.getD_cons_zero, List.getD_cons_succ] at hpq
    have f8 := hpq.1
    replace hpq := hpq.2
    have f16 := hpq.1
    replace hpq := hpq.2
    clear hpq
    replace f16 : vals 16 = _ := f16
    simp only [List.getD_cons_zero, List.getD_cons_succ, canonP, f16]
    clear f16
    try simp only [f8.1]
    simp only [Oper.gives]
    go_simp
    first | exact ⟨is_mk _ _, Touch.refl _ _⟩ | (refine ⟨is_mk _ _, Touch.refl _ _, ?_⟩; repeat' first | assumption | exact ⟨_, by assumption⟩ | refine And.intro ?_ ?_ | intro _)
  intro vals wz hRwz hfwz
  simp only [AllFacts] at hfwz
  have g0 := hfwz.1
  replace hfwz := hfwz.2
  have g1 := hfwz.1
  replace hfwz := hfwz.2
  have g2 := hfwz.1
  replace hfwz := hfwz.2
  have g3 := hfwz.1
  replace hfwz := hfwz.2
  have g4 := hfwz.1
  replace hfwz := hfwz.2
  have g5 := hfwz.1
  replace hfwz := hfwz.2
  have g6 := hfwz.1
  replace hfwz := hfwz.2
  have g7 := hfwz.1
  replace hfwz := hfwz.2
  have g8 := hfwz.1
  replace hfwz := hfwz.2
  have g9 := hfwz.1
  replace hfwz := hfwz.2
  have g10 := hfwz.1
  replace hfwz := hfwz.2
  have g11 := hfwz.1
  replace hfwz := hfwz.2
  have g12 := hfwz.1
  replace hfwz := hfwz.2
  have g13 := hfwz.1
  replace hfwz := hfwz.2
  have g14 := hfwz.1
  replace hfwz := hfwz.2
  have g15 := hfwz.1
  replace hfwz := hfwz.2
  have g16 := hfwz.1
  replace hfwz := hfwz.2
  have g17 := hfwz.1
  replace hfwz := hfwz.2
  clear hfwz
  replace g0 : vals 0 = _ := g0
  replace g1 : vals 1 = _ := g1
  replace g2 : vals 2 = _ := g2
  replace g3 : vals 3 = _ := g3
  replace g4 : vals 4 = _ := g4
  replace g5 : vals 5 = _ := g5
  replace g7 : vals 7 = _ := g7
  replace g9 : vals 9 = _ := g9
  replace g10 : vals 10 = _ := g10
  replace g11 : vals 11 = _ := g11
  replace g12 : vals 12 = _ := g12
  replace g13 : vals 13 = _ := g13
  replace g15 : vals 15 = _ := g15
  replace g16 : vals 16 = _ := g16
  replace g17 : vals 17 = _ := g17
  simp only [canonP, Act.put, List.setIfInBounds_toArray, List.set_cons_succ, List.set_cons_zero, g0, g1, g2, g3, g4, g5, g7, g9, g10, g11, g12, g13, g15, g16, g17]
  clear g0 g1 g2 g3 g4 g5 g7 g9 g10 g11 g12 g13 g15 g16 g17
  exact HK.out _ _ _ _ _ _ _ _ _ _ _ _ _ _ _ _ _ _ ((Touch.drew [bm, R] W1).trans hRwz (fun i hi => .inl hi)) g8.2
#print axioms plays10_reg

end Go.Proofs.Ytbpejjgjjjmlkaa
