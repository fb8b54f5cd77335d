/- The law's written: a block is written (region 10). -/
import Derived.Test.YtkcbjhdklenlbaaD17
import Derived.Test.YtkcbjhdklenlbaaRegionN
set_option linter.unusedVariables false
set_option linter.unusedSimpArgs false
namespace Go.Proofs.Ytkcbjhdklenlbaa
open Go.RowKit

noncomputable def writtenCode : Code := regById 10 (codesOf (Try.f10.body.getD .skip))
set_option maxRecDepth 100000 in
set_option maxHeartbeats 2000000 in
theorem written_reg (B : Nat) (S : List Nat) (d : DS) (y : Addr) (n cap i f : Nat) (b : Int) (W1 : World) (HD : Hid (IsDisk W1 B S d)) (HP0 : Hid (W1.cell? (y.add (i * 2)) = some (.int .i64 b))) (HP1 : Hid (W1.cell? ((y.add (i * 2)).add 1) = some (.int .u32 (f : Int)))) (HPL : Hid (y.block < W1.heap.size)) (HPS : Hid (y.block ∉ S)) (HF : Hid (f < 4294967296)) (hi : i < n)
    (HWS : Hid (d.ws.length ≤ 100000)) (HA : Hid (0 ≤ d.acts ∧ d.acts ≤ 1000000)) (HL : Hid (0 ≤ d.left ∧ d.left ≤ 9223372036854775807))
    (c0 c2 c3 c4 c5 c6 c7 c9 c10 c11 c13 c14 c15 c16 c17 c18 c19 c20 c21 c22 c23 c24 c25 c26 c27 c28 c29 c30 c31 c32 c33 c34 c35 c36 c37 c38 c39 c40 c41 c42 c43 c44 c45 c46 c47 c48 c49 c50 c51 c52 c53 c54 c55 c56 c57 c58 c59 c60 c61 c62 c63 c64 c65 c66 c67 c68 c69 c70 c71 c72 c73 c74 c75 c76 c77 c78 c79 c80 c81 c82 c83 c84 c85 c86 c87 c88 c89 c90 c91 c92 c93 : Value) (Q : Exit → Act → World → Prop) (HK : Hid (∀ u35 u36 u37 u38 u39 u40 u41 u42 u43 u44 u45 u46 u47 wz, Touch S W1 wz → (∃ S', IsDisk wz B S' (d.tried b (fillB f)) ∧ ∀ k ∈ S', k ∈ S ∨ W1.heap.size ≤ k) → Q .normal ⟨(c0 :: .slice (some y) n cap :: c2 :: c3 :: c4 :: c5 :: c6 :: c7 :: .pointer (some ⟨B, 0, none⟩) :: c9 :: c10 :: c11 :: .int .i64 (i : Int) :: .int .i64 (d.why b) :: c14 :: c15 :: c16 :: c17 :: c18 :: c19 :: c20 :: c21 :: c22 :: c23 :: c24 :: c25 :: c26 :: c27 :: c28 :: c29 :: c30 :: c31 :: c32 :: c33 :: c34 :: u35 :: u36 :: u37 :: u38 :: u39 :: u40 :: u41 :: u42 :: u43 :: u44 :: u45 :: u46 :: u47 :: c48 :: c49 :: c50 :: c51 :: c52 :: c53 :: c54 :: c55 :: c56 :: c57 :: c58 :: c59 :: c60 :: c61 :: c62 :: c63 :: c64 :: c65 :: c66 :: c67 :: c68 :: c69 :: c70 :: c71 :: c72 :: c73 :: c74 :: c75 :: c76 :: c77 :: c78 :: c79 :: c80 :: c81 :: c82 :: c83 :: c84 :: c85 :: c86 :: c87 :: c88 :: c89 :: c90 :: c91 :: c92 :: c93 :: []).toArray, []⟩ wz)) : writtenCode.wp Try.prog Q ⟨(c0 :: .slice (some y) n cap :: c2 :: c3 :: c4 :: c5 :: c6 :: c7 :: .pointer (some ⟨B, 0, none⟩) :: c9 :: c10 :: c11 :: .int .i64 (i : Int) :: c13 :: c14 :: c15 :: c16 :: c17 :: c18 :: c19 :: c20 :: c21 :: c22 :: c23 :: c24 :: c25 :: c26 :: c27 :: c28 :: c29 :: c30 :: c31 :: c32 :: c33 :: c34 :: c35 :: c36 :: c37 :: c38 :: c39 :: c40 :: c41 :: c42 :: c43 :: c44 :: c45 :: c46 :: c47 :: c48 :: c49 :: c50 :: c51 :: c52 :: c53 :: c54 :: c55 :: c56 :: c57 :: c58 :: c59 :: c60 :: c61 :: c62 :: c63 :: c64 :: c65 :: c66 :: c67 :: c68 :: c69 :: c70 :: c71 :: c72 :: c73 :: c74 :: c75 :: c76 :: c77 :: c78 :: c79 :: c80 :: c81 :: c82 :: c83 :: c84 :: c85 :: c86 :: c87 :: c88 :: c89 :: c90 :: c91 :: c92 :: c93 :: []).toArray, []⟩ W1 := by
  have HB0 := Lib.hid (show (0 : Int) ≤ (i : Int) by omega)
  have HB1 := Lib.hid (show (i : Int) < (n : Int) by omega)
  have HN0 := Lib.hid (show ∀ p ∈ ([(12, fun wx => IsDisk wx B S d)] : List (Nat × (World → Prop))), p.2 W1.drew by
    intro p hp
    rw [List.mem_singleton] at hp
    subst hp
    exact HD.out.kept (Touch.drew [] W1) (by simp))
  conv => arg 2; whnf
  refine wp_region_factsN [12] [(12, fun wx => IsDisk wx B S d)] (by kernel_rfl) [[], [], [], [(1, some 36), (2, some 37)], [(3, some 38)], [(4, some 39)], [], [], [(6, some 41), (7, some 42)], [(8, some 43)], [(9, some 44)], [(10, some 45)], [(0, some 35), (5, some 40), (11, some 46)], [(0, some 35), (1, some 36), (2, some 37), (3, some 38), (4, some 39), (5, some 40), (6, some 41), (7, some 42), (8, some 43), (9, some 44), (10, some 45), (11, some 46), (12, some 47)]] [(0, some 35), (1, some 36), (2, some 37), (3, some 38), (4, some 39), (5, some 40), (6, some 41), (7, some 42), (8, some 43), (9, some 44), (10, some 45), (11, some 46), (12, some 47), (13, some 13)] (by kernel_rfl) (by kernel_rfl) (by kernel_rfl) (Touch S) (Touch.refl S) (fun _ _ _ h h' => h.trans h' (fun i hi => .inl hi)) [Is (Value.pointer (some ⟨B, 0, none⟩)), Is (Value.slice (some y) n cap), Is (Value.int .i64 (i : Int)), Is (Value.pointer (some (y.add (i * 2)))), Is (Value.pointer (some (y.add (i * 2)))), Is (Value.int .i64 b), Is (Value.slice (some y) n cap), Is (Value.int .i64 (i : Int)), Is (Value.pointer (some (y.add (i * 2)))), Is (Value.pointer (some ((y.add (i * 2)).add 1))), Is (Value.int .u32 (f : Int)), Is (Value.agg (bc (fillB f)).toArray), (fun v wx => v = .int .i64 (d.why b) ∧ ∃ S', IsDisk wx B S' (d.tried b (fillB f)) ∧ ∀ k ∈ S', k ∈ S ∨ W1.heap.size ≤ k), Is (Value.int .i64 (d.why b))] rfl ⟨.inr (is_stab _ _), .inr (is_stab _ _), .inr (is_stab _ _), .inr (is_stab _ _), .inr (is_stab _ _), .inr (is_stab _ _), .inr (is_stab _ _), .inr (is_stab _ _), .inr (is_stab _ _), .inr (is_stab _ _), .inr (is_stab _ _), .inr (is_stab _ _), .inl (by simp), .inr (is_stab _ _), trivial⟩ HN0.out ⟨?o0, ?o1, ?o2, ?o3, ?o4, ?o5, ?o6, ?o7, ?o8, ?o9, ?o10, ?o11, ?o12, ?o13, trivial⟩ ?_
  case o0 =>
    intro vals wq hRq hNq hpq
    simp only [List.getD_cons_zero, List.getD_cons_succ, canonP]
    simp only [Oper.gives]
    go_simp
    first | exact ⟨is_mk _ _, (Touch.refl S) _⟩ | exact ⟨is_mk _ _, (Touch.refl S) _, (fun _ _ _ _ h => h), (fun _ _ _ _ _ h => h)⟩
  case o1 =>
    intro vals wq hRq hNq hpq
    simp only [List.getD_cons_zero, List.getD_cons_succ, canonP]
    simp only [Oper.gives]
    go_simp
    first | exact ⟨is_mk _ _, (Touch.refl S) _⟩ | exact ⟨is_mk _ _, (Touch.refl S) _, (fun _ _ _ _ h => h), (fun _ _ _ _ _ h => h)⟩
  case o2 =>
    intro vals wq hRq hNq hpq
    simp only [List.getD_cons_zero, List.getD_cons_succ, canonP]
    simp only [Oper.gives]
    go_simp
    first | exact ⟨is_mk _ _, (Touch.refl S) _⟩ | exact ⟨is_mk _ _, (Touch.refl S) _, (fun _ _ _ _ h => h), (fun _ _ _ _ _ h => h)⟩
  case o3 =>
    intro vals wq hRq hNq hpq
    simp only [factsP, List.getD_cons_zero, List.getD_cons_succ] at hpq
    have f1 := hpq.1
    replace hpq := hpq.2
    have f2 := hpq.1
    replace hpq := hpq.2
    clear hpq
    replace f1 : vals 1 = _ := f1
    replace f2 : vals 2 = _ := f2
    simp only [List.getD_cons_zero, List.getD_cons_succ, canonP, f1, f2]
    clear f1 f2
    have b0 := HB0.out
    have b1 := HB1.out
    simp only [Oper.gives]
    go_simp
    first | exact ⟨is_mk _ _, Touch.refl _ _⟩ | exact ⟨is_mk _ _, Touch.refl _ _, (fun _ _ _ _ h => h), (fun _ _ _ _ _ h => h)⟩
  case o4 =>
    intro vals wq hRq hNq hpq
    simp only [factsP, List.getD_cons_zero, List.getD_cons_succ] at hpq
    have f3 := hpq.1
    replace hpq := hpq.2
    clear hpq
    replace f3 : vals 3 = _ := f3
    simp only [List.getD_cons_zero, List.getD_cons_succ, canonP, f3]
    clear f3
    simp only [Oper.gives]
    go_simp
    first | exact ⟨is_mk _ _, (Touch.refl S) _⟩ | exact ⟨is_mk _ _, (Touch.refl S) _, (fun _ _ _ _ h => h), (fun _ _ _ _ _ h => h)⟩
  case o5 =>
    intro vals wq hRq hNq hpq
    simp only [factsP, List.getD_cons_zero, List.getD_cons_succ] at hpq
    have f4 := hpq.1
    replace hpq := hpq.2
    clear hpq
    replace f4 : vals 4 = _ := f4
    simp only [List.getD_cons_zero, List.getD_cons_succ, canonP, f4]
    clear f4
    have hcc : wq.cell? (y.add (i * 2)) = some (.int .i64 b) := (hRq.cell (by rw [add_block]; exact HPL.out) (by rw [add_block]; exact HPS.out)).trans HP0.out
    simp only [Oper.gives]
    go_simp
    first | exact ⟨is_mk _ _, Touch.refl _ _⟩ | exact ⟨is_mk _ _, Touch.refl _ _, (fun _ _ _ _ h => h), (fun _ _ _ _ _ h => h)⟩
  case o6 =>
    intro vals wq hRq hNq hpq
    simp only [List.getD_cons_zero, List.getD_cons_succ, canonP]
    simp only [Oper.gives]
    go_simp
    first | exact ⟨is_mk _ _, (Touch.refl S) _⟩ | exact ⟨is_mk _ _, (Touch.refl S) _, (fun _ _ _ _ h => h), (fun _ _ _ _ _ h => h)⟩
  case o7 =>
    intro vals wq hRq hNq hpq
    simp only [List.getD_cons_zero, List.getD_cons_succ, canonP]
    simp only [Oper.gives]
    go_simp
    first | exact ⟨is_mk _ _, (Touch.refl S) _⟩ | exact ⟨is_mk _ _, (Touch.refl S) _, (fun _ _ _ _ h => h), (fun _ _ _ _ _ h => h)⟩
  case o8 =>
    intro vals wq hRq hNq hpq
    simp only [factsP, List.getD_cons_zero, List.getD_cons_succ] at hpq
    have f6 := hpq.1
    replace hpq := hpq.2
    have f7 := hpq.1
    replace hpq := hpq.2
    clear hpq
    replace f6 : vals 6 = _ := f6
    replace f7 : vals 7 = _ := f7
    simp only [List.getD_cons_zero, List.getD_cons_succ, canonP, f6, f7]
    clear f6 f7
    have b0 := HB0.out
    have b1 := HB1.out
    simp only [Oper.gives]
    go_simp
    first | exact ⟨is_mk _ _, Touch.refl _ _⟩ | exact ⟨is_mk _ _, Touch.refl _ _, (fun _ _ _ _ h => h), (fun _ _ _ _ _ h => h)⟩
  case o9 =>
    intro vals wq hRq hNq hpq
    simp only [factsP, List.getD_cons_zero, List.getD_cons_succ] at hpq
    have f8 := hpq.1
    replace hpq := hpq.2
    clear hpq
    replace f8 : vals 8 = _ := f8
    simp only [List.getD_cons_zero, List.getD_cons_succ, canonP, f8]
    clear f8
    simp only [Oper.gives]
    go_simp
    first | exact ⟨is_mk _ _, (Touch.refl S) _⟩ | exact ⟨is_mk _ _, (Touch.refl S) _, (fun _ _ _ _ h => h), (fun _ _ _ _ _ h => h)⟩
  case o10 =>
    intro vals wq hRq hNq hpq
    simp only [factsP, List.getD_cons_zero, List.getD_cons_succ] at hpq
    have f9 := hpq.1
    replace hpq := hpq.2
    clear hpq
    replace f9 : vals 9 = _ := f9
    simp only [List.getD_cons_zero, List.getD_cons_succ, canonP, f9]
    clear f9
    have hcc : wq.cell? ⟨(y.add (i * 2)).block, (y.add (i * 2)).off + 1, none⟩ = some (.int .u32 (f : Int)) := (hRq.cell (a := (y.add (i * 2)).add 1) (by rw [add_block, add_block]; exact HPL.out) (by rw [add_block, add_block]; exact HPS.out)).trans HP1.out
    simp only [Oper.gives]
    go_simp
    first | exact ⟨is_mk _ _, Touch.refl _ _⟩ | exact ⟨is_mk _ _, Touch.refl _ _, (fun _ _ _ _ h => h), (fun _ _ _ _ _ h => h)⟩
  case o11 =>
    intro vals wq hRq hNq hpq
    simp only [factsP, List.getD_cons_zero, List.getD_cons_succ] at hpq
    have f10 := hpq.1
    replace hpq := hpq.2
    clear hpq
    replace f10 : vals 10 = _ := f10
    simp only [List.getD_cons_zero, List.getD_cons_succ, canonP, f10]
    clear f10
    simp only [Oper.gives]
    go_simp
    refine (fill_any f HF.out wq).mono ?_
    intro e w' hh
    exact ⟨_, hh.1, is_mk _ _, Touch.of_below hh.2, fun h => IsDisk.kept h (Touch.of_below (S := []) hh.2) (by simp)⟩
  case o12 =>
    intro vals wq hRq hNq hpq
    simp only [factsP, List.getD_cons_zero, List.getD_cons_succ] at hpq
    have f0 := hpq.1
    replace hpq := hpq.2
    have f5 := hpq.1
    replace hpq := hpq.2
    have f11 := hpq.1
    replace hpq := hpq.2
    clear hpq
    replace f0 : vals 0 = _ := f0
    replace f5 : vals 5 = _ := f5
    replace f11 : vals 11 = _ := f11
    simp only [List.getD_cons_zero, List.getD_cons_succ, canonP, f0, f5, f11]
    clear f0 f5 f11
    have hdd : IsDisk wq B S d := hNq (12, fun wx => IsDisk wx B S d) (List.Mem.head _) rfl
    have hsz : W1.heap.size ≤ wq.heap.size := hRq.size
    simp only [Oper.gives]
    go_simp
    refine (write_any hdd b (fillB f) (fillB_length f) HWS.out HA.out HL.out).mono ?_
    intro e w' hh
    have h1 := hh.1
    replace hh := hh.2
    obtain ⟨S', h2, h3, h4⟩ := hh
    exact ⟨_, h1, ⟨rfl, S', h2, fun k hk => (h4 k hk).imp id (Nat.le_trans hsz)⟩, h3⟩
  case o13 =>
    intro vals wq hRq hNq hpq
    simp only [factsP, List.getD_cons_zero, List.getD_cons_succ] at hpq
    have f0 := hpq.1
    replace hpq := hpq.2
    have f1 := hpq.1
    replace hpq := hpq.2
    have f2 := hpq.1
    replace hpq := hpq.2
    have f3 := hpq.1
    replace hpq := hpq.2
    have f4 := hpq.1
    replace hpq := hpq.2
    have f5 := hpq.1
    replace hpq := hpq.2
    have f6 := hpq.1
    replace hpq := hpq.2
    have f7 := hpq.1
    replace hpq := hpq.2
    have f8 := hpq.1
    replace hpq := hpq.2
    have f9 := hpq.1
    replace hpq := hpq.2
    have f10 := hpq.1
    replace hpq := hpq.2
    have f11 := hpq.1
    replace hpq := hpq.2
    have f12 := hpq.1
    replace hpq := hpq.2
    clear hpq
    replace f0 : vals 0 = _ := f0
    replace f1 : vals 1 = _ := f1
    replace f2 : vals 2 = _ := f2
    replace f3 : vals 3 = _ := f3
    replace f4 : vals 4 = _ := f4
    replace f5 : vals 5 = _ := f5
    replace f6 : vals 6 = _ := f6
    replace f7 : vals 7 = _ := f7
    replace f8 : vals 8 = _ := f8
    replace f9 : vals 9 = _ := f9
    replace f10 : vals 10 = _ := f10
    replace f11 : vals 11 = _ := f11
    simp only [List.getD_cons_zero, List.getD_cons_succ, canonP, f0, f1, f2, f3, f4, f5, f6, f7, f8, f9, f10, f11]
    clear f0 f1 f2 f3 f4 f5 f6 f7 f8 f9 f10 f11
    simp only [f12.1]
    simp only [Oper.gives]
    go_simp
    first | exact ⟨is_mk _ _, Touch.refl _ _⟩ | exact ⟨is_mk _ _, Touch.refl _ _, (fun _ _ _ _ h => h), (fun _ _ _ _ _ h => h)⟩
  intro vals wz hRwz hfwz
  simp only [AllFacts] at hfwz
  have g0 := hfwz.1
  replace hfwz := hfwz.2
  have g1 := hfwz.1
  replace hfwz := hfwz.2
  have g2 := hfwz.1
  replace hfwz := hfwz.2
  have g3 := hfwz.1
  replace hfwz := hfwz.2
  have g4 := hfwz.1
  replace hfwz := hfwz.2
  have g5 := hfwz.1
  replace hfwz := hfwz.2
  have g6 := hfwz.1
  replace hfwz := hfwz.2
  have g7 := hfwz.1
  replace hfwz := hfwz.2
  have g8 := hfwz.1
  replace hfwz := hfwz.2
  have g9 := hfwz.1
  replace hfwz := hfwz.2
  have g10 := hfwz.1
  replace hfwz := hfwz.2
  have g11 := hfwz.1
  replace hfwz := hfwz.2
  have g12 := hfwz.1
  replace hfwz := hfwz.2
  have g13 := hfwz.1
  replace hfwz := hfwz.2
  clear hfwz
  replace g0 : vals 0 = _ := g0
  replace g1 : vals 1 = _ := g1
  replace g2 : vals 2 = _ := g2
  replace g3 : vals 3 = _ := g3
  replace g4 : vals 4 = _ := g4
  replace g5 : vals 5 = _ := g5
  replace g6 : vals 6 = _ := g6
  replace g7 : vals 7 = _ := g7
  replace g8 : vals 8 = _ := g8
  replace g9 : vals 9 = _ := g9
  replace g10 : vals 10 = _ := g10
  replace g11 : vals 11 = _ := g11
  replace g13 : vals 13 = _ := g13
  simp only [canonP, Act.put, List.setIfInBounds_toArray, List.set_cons_succ, List.set_cons_zero, g0, g1, g2, g3, g4, g5, g6, g7, g8, g9, g10, g11, g13]
  clear g0 g1 g2 g3 g4 g5 g6 g7 g8 g9 g10 g11 g13
  exact HK.out _ _ _ _ _ _ _ _ _ _ _ _ _ _ ((Touch.drew S W1).trans hRwz (fun i hi => .inl hi)) g12.2
#print axioms written_reg
end Go.Proofs.Ytkcbjhdklenlbaa
