/- The law's laid: its regions. -/
import Derived.Test.YtbpejjgjjjmlkaaR3
set_option linter.unusedVariables false
set_option linter.unusedSimpArgs false
namespace Go.Proofs.Ytbpejjgjjjmlkaa
open Go.RowKit

theorem there3 {w : World} {g : Nat} {a b c : Value} {t : TypeId} (h : w.heap[g]? = some (.cells #[a, b, c] t)) : w.there g 0 3 := by
  intro j hj
  refine ⟨?_, by rw [Nat.zero_add]; exact frozen_at h j⟩
  rw [Nat.zero_add, cell_at h j]
  match j, hj with
  | 0, _ => rfl
  | 1, _ => rfl
  | 2, _ => rfl
theorem heap_set3 {w : World} {g : Nat} {a b c : Value} {t : TypeId} (h : w.heap[g]? = some (.cells #[a, b, c] t)) (x y z : Value) : (w.setCells g 0 [x, y, z]).heap[g]? = some (.cells #[x, y, z] t) := by
  have h1 := heap_set h 0 x
  have h2 := heap_set h1 1 y
  have h3 := heap_set h2 2 z
  exact h3
def Three (w : World) (g : Nat) (t : TypeId) : Prop := ∃ a b c, w.heap[g]? = some (.cells #[a, b, c] t)
theorem Three.there {w : World} {g : Nat} {t : TypeId} (h : Three w g t) : w.there g 0 3 := by obtain ⟨a, b, c, h⟩ := h; exact there3 h
theorem Three.set {w : World} {g : Nat} {t : TypeId} (h : Three w g t) (x y z : Value) : (w.setCells g 0 [x, y, z]).heap[g]? = some (.cells #[x, y, z] t) := by obtain ⟨a, b, c, h⟩ := h; exact heap_set3 h x y z
theorem size28 : (Try.prog.info? 28).map (·.size) = some 3 := by kernel_rfl
noncomputable def laid6Code : Code := regById 6 (codesOf (Try.f9.body.getD .skip))
set_option maxRecDepth 100000 in
set_option maxHeartbeats 2000000 in
theorem laid6_reg (y : Addr) (n cap i s : Nat) (b : Int) (W1 : World) (HP0 : Hid (W1.cell? (y.add (i * 3)) = some (.int .i64 b))) (HP1 : Hid (W1.cell? ((y.add (i * 3)).add 1) = some (.int .u32 (s : Int)))) (HPL : Hid (y.block < W1.heap.size)) (HPS : Hid (y.block ∉ [W1.heap.size])) (hi : i < n)
    (c1 c2 c3 c4 c5 c7 c8 c9 c10 c11 c12 c13 c14 c15 c16 c17 c18 c19 c20 c21 c22 c23 c24 c25 c26 c27 c28 c29 c30 c31 c32 c33 c34 c35 c36 c37 c38 c39 c40 c41 c42 c43 c44 c45 c46 c47 c48 c49 c50 c51 c52 c53 c54 c55 c56 c57 c58 c59 c60 c61 c62 c63 c64 c65 c66 c67 c68 c69 c70 c71 c72 c73 c74 c75 c76 c77 c78 c79 c80 c81 c82 c83 c84 c85 c86 c87 c88 c89 c90 c91 c92 c93 : Value) (Q : Exit → Act → World → Prop) (HK : Hid (∀ u17 u18 u19 u20 u21 u22 u23 u24 u25 u26 u27 wz, Grow W1 wz → wz.heap[W1.heap.size]? = some (.cells #[.int .i64 b, .int .u32 (s : Int), .bool false] 28) → Q .normal ⟨(.slice (some y) n cap :: c1 :: c2 :: c3 :: c4 :: c5 :: .int .i64 (i : Int) :: .pointer (some ⟨W1.heap.size, 0, none⟩) :: c8 :: c9 :: c10 :: c11 :: c12 :: c13 :: c14 :: c15 :: c16 :: u17 :: u18 :: u19 :: u20 :: u21 :: u22 :: u23 :: u24 :: u25 :: u26 :: u27 :: c28 :: c29 :: c30 :: c31 :: c32 :: c33 :: c34 :: c35 :: c36 :: c37 :: c38 :: c39 :: c40 :: c41 :: c42 :: c43 :: c44 :: c45 :: c46 :: c47 :: c48 :: c49 :: c50 :: c51 :: c52 :: c53 :: c54 :: c55 :: c56 :: c57 :: c58 :: c59 :: c60 :: c61 :: c62 :: c63 :: c64 :: c65 :: c66 :: c67 :: c68 :: c69 :: c70 :: c71 :: c72 :: c73 :: c74 :: c75 :: c76 :: c77 :: c78 :: c79 :: c80 :: c81 :: c82 :: c83 :: c84 :: c85 :: c86 :: c87 :: c88 :: c89 :: c90 :: c91 :: c92 :: c93 :: []).toArray, []⟩ wz)) : laid6Code.wp Try.prog Q ⟨(.slice (some y) n cap :: c1 :: c2 :: c3 :: c4 :: c5 :: .int .i64 (i : Int) :: c7 :: c8 :: c9 :: c10 :: c11 :: c12 :: c13 :: c14 :: c15 :: c16 :: c17 :: c18 :: c19 :: c20 :: c21 :: c22 :: c23 :: c24 :: c25 :: c26 :: c27 :: c28 :: c29 :: c30 :: c31 :: c32 :: c33 :: c34 :: c35 :: c36 :: c37 :: c38 :: c39 :: c40 :: c41 :: c42 :: c43 :: c44 :: c45 :: c46 :: c47 :: c48 :: c49 :: c50 :: c51 :: c52 :: c53 :: c54 :: c55 :: c56 :: c57 :: c58 :: c59 :: c60 :: c61 :: c62 :: c63 :: c64 :: c65 :: c66 :: c67 :: c68 :: c69 :: c70 :: c71 :: c72 :: c73 :: c74 :: c75 :: c76 :: c77 :: c78 :: c79 :: c80 :: c81 :: c82 :: c83 :: c84 :: c85 :: c86 :: c87 :: c88 :: c89 :: c90 :: c91 :: c92 :: c93 :: []).toArray, []⟩ W1 := by
  have HB0 := Lib.hid (show (0 : Int) ≤ (i : Int) by omega)
  have HB1 := Lib.hid (show (i : Int) < (n : Int) by omega)
  have HSz := Lib.hid size28
  have HN0 := Lib.hid (show ∀ p ∈ ([(11, fun wx => wx.heap.size = W1.heap.size)] : List (Nat × (World → Prop))), p.2 W1.drew by
    intro p hp
    rw [List.mem_singleton] at hp
    subst hp
    rfl)
  conv => arg 2; whnf
  refine wp_region_factsN [11, 12] [(11, fun wx => wx.heap.size = W1.heap.size)] (by kernel_rfl) [[], [], [(0, some 17), (1, some 18)], [(2, some 19)], [(3, some 20)], [], [], [(5, some 22), (6, some 23)], [(7, some 24)], [(8, some 25)], [(4, some 21), (9, some 26)], [], [(0, some 17), (1, some 18), (2, some 19), (3, some 20), (4, some 21), (5, some 22), (6, some 23), (7, some 24), (8, some 25), (9, some 26), (10, some 27), (11, some 7)]] [(0, some 17), (1, some 18), (2, some 19), (3, some 20), (4, some 21), (5, some 22), (6, some 23), (7, some 24), (8, some 25), (9, some 26), (10, some 27), (11, some 7), (12, none)] (by kernel_rfl) (by kernel_rfl) (by kernel_rfl) (Touch [W1.heap.size]) (Touch.refl [W1.heap.size]) (fun _ _ _ h h' => h.trans h' (fun i hi => .inl hi)) [Is (Value.slice (some y) n cap), Is (Value.int .i64 (i : Int)), Is (Value.pointer (some (y.add (i * 3)))), Is (Value.pointer (some (y.add (i * 3)))), Is (Value.int .i64 b), Is (Value.slice (some y) n cap), Is (Value.int .i64 (i : Int)), Is (Value.pointer (some (y.add (i * 3)))), Is (Value.pointer (some ((y.add (i * 3)).add 1))), Is (Value.int .u32 (s : Int)), Is (Value.agg #[Value.int .i64 b, Value.int .u32 (s : Int), Value.bool false]), (fun v wx => v = .pointer (some ⟨W1.heap.size, 0, none⟩) ∧ Three wx W1.heap.size 28), (fun _ wx => wx.heap[W1.heap.size]? = some (.cells #[.int .i64 b, .int .u32 (s : Int), .bool false] 28))] rfl ⟨.inr (is_stab _ _), .inr (is_stab _ _), .inr (is_stab _ _), .inr (is_stab _ _), .inr (is_stab _ _), .inr (is_stab _ _), .inr (is_stab _ _), .inr (is_stab _ _), .inr (is_stab _ _), .inr (is_stab _ _), .inr (is_stab _ _), .inl (by simp), .inl (by simp), trivial⟩ HN0.out ⟨?o0, ?o1, ?o2, ?o3, ?o4, ?o5, ?o6, ?o7, ?o8, ?o9, ?o10, ?o11, ?o12, trivial⟩ ?_
  case o0 =>
    intro vals wq hRq hNq hpq
    simp only [List.getD_cons_zero, List.getD_cons_succ, canonP]
    simp only [Oper.gives]
    go_simp
    first | exact ⟨is_mk _ _, (Touch.refl [W1.heap.size]) _⟩ | exact ⟨is_mk _ _, (Touch.refl [W1.heap.size]) _, (fun _ _ _ _ h => h), (fun _ _ _ _ _ h => h)⟩
  case o1 =>
    intro vals wq hRq hNq hpq
    simp only [List.getD_cons_zero, List.getD_cons_succ, canonP]
    simp only [Oper.gives]
    go_simp
    first | exact ⟨is_mk _ _, (Touch.refl [W1.heap.size]) _⟩ | exact ⟨is_mk _ _, (Touch.refl [W1.heap.size]) _, (fun _ _ _ _ h => h), (fun _ _ _ _ _ h => h)⟩
  case o2 =>
    intro vals wq hRq hNq hpq
    simp only [factsP, List.getD_cons_zero, List.getD_cons_succ] at hpq
    have f0 := hpq.1
    replace hpq := hpq.2
    have f1 := hpq.1
    replace hpq := hpq.2
    clear hpq
    replace f0 : vals 0 = _ := f0
    replace f1 : vals 1 = _ := f1
    simp only [List.getD_cons_zero, List.getD_cons_succ, canonP, f0, f1]
    clear f0 f1
    have b0 := HB0.out
    have b1 := HB1.out
    simp only [Oper.gives]
    go_simp
    first | exact ⟨is_mk _ _, Touch.refl _ _⟩ | exact ⟨is_mk _ _, Touch.refl _ _, (fun _ _ _ _ h => h), (fun _ _ _ _ _ h => h)⟩
  case o3 =>
    intro vals wq hRq hNq hpq
    simp only [factsP, List.getD_cons_zero, List.getD_cons_succ] at hpq
    have f2 := hpq.1
    replace hpq := hpq.2
    clear hpq
    replace f2 : vals 2 = _ := f2
    simp only [List.getD_cons_zero, List.getD_cons_succ, canonP, f2]
    clear f2
    simp only [Oper.gives]
    go_simp
    first | exact ⟨is_mk _ _, (Touch.refl [W1.heap.size]) _⟩ | exact ⟨is_mk _ _, (Touch.refl [W1.heap.size]) _, (fun _ _ _ _ h => h), (fun _ _ _ _ _ h => h)⟩
  case o4 =>
    intro vals wq hRq hNq hpq
    simp only [factsP, List.getD_cons_zero, List.getD_cons_succ] at hpq
    have f3 := hpq.1
    replace hpq := hpq.2
    clear hpq
    replace f3 : vals 3 = _ := f3
    simp only [List.getD_cons_zero, List.getD_cons_succ, canonP, f3]
    clear f3
    have hcc : wq.cell? (y.add (i * 3)) = some (.int .i64 b) := (hRq.cell (by rw [add_block]; exact HPL.out) (by rw [add_block]; exact HPS.out)).trans HP0.out
    simp only [Oper.gives]
    go_simp
    first | exact ⟨is_mk _ _, Touch.refl _ _⟩ | exact ⟨is_mk _ _, Touch.refl _ _, (fun _ _ _ _ h => h), (fun _ _ _ _ _ h => h)⟩
  case o5 =>
    intro vals wq hRq hNq hpq
    simp only [List.getD_cons_zero, List.getD_cons_succ, canonP]
    simp only [Oper.gives]
    go_simp
    first | exact ⟨is_mk _ _, (Touch.refl [W1.heap.size]) _⟩ | exact ⟨is_mk _ _, (Touch.refl [W1.heap.size]) _, (fun _ _ _ _ h => h), (fun _ _ _ _ _ h => h)⟩
  case o6 =>
    intro vals wq hRq hNq hpq
    simp only [List.getD_cons_zero, List.getD_cons_succ, canonP]
    simp only [Oper.gives]
    go_simp
    first | exact ⟨is_mk _ _, (Touch.refl [W1.heap.size]) _⟩ | exact ⟨is_mk _ _, (Touch.refl [W1.heap.size]) _, (fun _ _ _ _ h => h), (fun _ _ _ _ _ h => h)⟩
  case o7 =>
    intro vals wq hRq hNq hpq
    simp only [factsP, List.getD_cons_zero, List.getD_cons_succ] at hpq
    have f5 := hpq.1
    replace hpq := hpq.2
    have f6 := hpq.1
    replace hpq := hpq.2
    clear hpq
    replace f5 : vals 5 = _ := f5
    replace f6 : vals 6 = _ := f6
    simp only [List.getD_cons_zero, List.getD_cons_succ, canonP, f5, f6]
    clear f5 f6
    have b0 := HB0.out
    have b1 := HB1.out
    simp only [Oper.gives]
    go_simp
    first | exact ⟨is_mk _ _, Touch.refl _ _⟩ | exact ⟨is_mk _ _, Touch.refl _ _, (fun _ _ _ _ h => h), (fun _ _ _ _ _ h => h)⟩
  case o8 =>
    intro vals wq hRq hNq hpq
    simp only [factsP, List.getD_cons_zero, List.getD_cons_succ] at hpq
    have f7 := hpq.1
    replace hpq := hpq.2
    clear hpq
    replace f7 : vals 7 = _ := f7
    simp only [List.getD_cons_zero, List.getD_cons_succ, canonP, f7]
    clear f7
    simp only [Oper.gives]
    go_simp
    first | exact ⟨is_mk _ _, (Touch.refl [W1.heap.size]) _⟩ | exact ⟨is_mk _ _, (Touch.refl [W1.heap.size]) _, (fun _ _ _ _ h => h), (fun _ _ _ _ _ h => h)⟩
  case o9 =>
    intro vals wq hRq hNq hpq
    simp only [factsP, List.getD_cons_zero, List.getD_cons_succ] at hpq
    have f8 := hpq.1
    replace hpq := hpq.2
    clear hpq
    replace f8 : vals 8 = _ := f8
    simp only [List.getD_cons_zero, List.getD_cons_succ, canonP, f8]
    clear f8
    have hcc : wq.cell? ⟨(y.add (i * 3)).block, (y.add (i * 3)).off + 1, none⟩ = some (.int .u32 (s : Int)) := (hRq.cell (a := (y.add (i * 3)).add 1) (by rw [add_block, add_block]; exact HPL.out) (by rw [add_block, add_block]; exact HPS.out)).trans HP1.out
    simp only [Oper.gives]
    go_simp
    first | exact ⟨is_mk _ _, Touch.refl _ _⟩ | exact ⟨is_mk _ _, Touch.refl _ _, (fun _ _ _ _ h => h), (fun _ _ _ _ _ h => h)⟩
  case o10 =>
    intro vals wq hRq hNq hpq
    simp only [factsP, List.getD_cons_zero, List.getD_cons_succ] at hpq
    have f4 := hpq.1
    replace hpq := hpq.2
    have f9 := hpq.1
    replace hpq := hpq.2
    clear hpq
    replace f4 : vals 4 = _ := f4
    replace f9 : vals 9 = _ := f9
    simp only [List.getD_cons_zero, List.getD_cons_succ, canonP, f4, f9]
    clear f4 f9
    simp only [Oper.gives]
    go_simp
    first | exact ⟨is_mk _ _, (Touch.refl [W1.heap.size]) _⟩ | exact ⟨is_mk _ _, (Touch.refl [W1.heap.size]) _, (fun _ _ _ _ h => h), (fun _ _ _ _ _ h => h)⟩
  case o11 =>
    intro vals wq hRq hNq hpq
    simp only [List.getD_cons_zero, List.getD_cons_succ, canonP]
    have hsz : wq.heap.size = W1.heap.size := hNq (11, fun wx => wx.heap.size = W1.heap.size) (List.Mem.head _) rfl
    rw [if_pos (by rfl)]
    refine gives_run (v := .pointer (some ⟨wq.heap.size, 0, none⟩)) (w' := wq.alloc (.cells #[.int .i64 0, .int .u32 0, .bool false] 28)) (by unfold execOp; go_simp) ⟨⟨by rw [hsz], by rw [← hsz]; exact ⟨_, _, _, heap_alloc_last _ _⟩⟩, Touch.alloc _ _ _, ?_, ?_⟩
    · intro p hp hn; rw [List.mem_singleton] at hp; subst hp; exact absurd rfl hn
    · intro k hk hne hnp; exact absurd hk (by intro hk; simp at hk; rcases hk with rfl | rfl <;> first | exact hne rfl | exact hnp (by simp))
  case o12 =>
    intro vals wq hRq hNq hpq
    simp only [factsP, List.getD_cons_zero, List.getD_cons_succ] at hpq
    have f0 := hpq.1
    replace hpq := hpq.2
    have f1 := hpq.1
    replace hpq := hpq.2
    have f2 := hpq.1
    replace hpq := hpq.2
    have f3 := hpq.1
    replace hpq := hpq.2
    have f4 := hpq.1
    replace hpq := hpq.2
    have f5 := hpq.1
    replace hpq := hpq.2
    have f6 := hpq.1
    replace hpq := hpq.2
    have f7 := hpq.1
    replace hpq := hpq.2
    have f8 := hpq.1
    replace hpq := hpq.2
    have f9 := hpq.1
    replace hpq := hpq.2
    have f10 := hpq.1
    replace hpq := hpq.2
    have f11 := hpq.1
    replace hpq := hpq.2
    clear hpq
    replace f0 : vals 0 = _ := f0
    replace f1 : vals 1 = _ := f1
    replace f2 : vals 2 = _ := f2
    replace f3 : vals 3 = _ := f3
    replace f4 : vals 4 = _ := f4
    replace f5 : vals 5 = _ := f5
    replace f6 : vals 6 = _ := f6
    replace f7 : vals 7 = _ := f7
    replace f8 : vals 8 = _ := f8
    replace f9 : vals 9 = _ := f9
    replace f10 : vals 10 = _ := f10
    simp only [List.getD_cons_zero, List.getD_cons_succ, canonP, f0, f1, f2, f3, f4, f5, f6, f7, f8, f9, f10]
    clear f0 f1 f2 f3 f4 f5 f6 f7 f8 f9 f10
    simp only [Act.put, List.setIfInBounds_toArray, List.set_cons_succ, List.set_cons_zero, f11.1]
    rw [if_pos (by rfl)]
    refine gives_store_mid wq 28 W1.heap.size 0 #[.int .i64 b, .int .u32 (s : Int), .bool false] rfl rfl rfl f11.2.there HSz.out (by simp [Value.oneCell']) ⟨f11.2.set _ _ _, touch_setCells (by simp) _ _ _, ?_, ?_⟩
    · intro p hp hn hnp; rw [List.mem_singleton] at hp; subst hp; exact absurd (by simp) hnp
    · intro k hk hne hnp u hu; simp only [List.mem_cons, List.not_mem_nil, or_false] at hk; rcases hk with rfl | rfl
      · exact ⟨hu.1, ⟨_, _, _, hu.2.set _ _ _⟩⟩
      · exact absurd rfl hne
  intro vals wz hRwz hfwz
  simp only [AllFacts] at hfwz
  have g0 := hfwz.1
  replace hfwz := hfwz.2
  have g1 := hfwz.1
  replace hfwz := hfwz.2
  have g2 := hfwz.1
  replace hfwz := hfwz.2
  have g3 := hfwz.1
  replace hfwz := hfwz.2
  have g4 := hfwz.1
  replace hfwz := hfwz.2
  have g5 := hfwz.1
  replace hfwz := hfwz.2
  have g6 := hfwz.1
  replace hfwz := hfwz.2
  have g7 := hfwz.1
  replace hfwz := hfwz.2
  have g8 := hfwz.1
  replace hfwz := hfwz.2
  have g9 := hfwz.1
  replace hfwz := hfwz.2
  have g10 := hfwz.1
  replace hfwz := hfwz.2
  have g11 := hfwz.1
  replace hfwz := hfwz.2
  have g12 := hfwz.1
  replace hfwz := hfwz.2
  clear hfwz
  replace g0 : vals 0 = _ := g0
  replace g1 : vals 1 = _ := g1
  replace g2 : vals 2 = _ := g2
  replace g3 : vals 3 = _ := g3
  replace g4 : vals 4 = _ := g4
  replace g5 : vals 5 = _ := g5
  replace g6 : vals 6 = _ := g6
  replace g7 : vals 7 = _ := g7
  replace g8 : vals 8 = _ := g8
  replace g9 : vals 9 = _ := g9
  replace g10 : vals 10 = _ := g10
  simp only [canonP, Act.put, List.setIfInBounds_toArray, List.set_cons_succ, List.set_cons_zero, g0, g1, g2, g3, g4, g5, g6, g7, g8, g9, g10]
  clear g0 g1 g2 g3 g4 g5 g6 g7 g8 g9 g10
  rw [g11.1]
  exact HK.out _ _ _ _ _ _ _ _ _ _ _ _ (((Touch.drew [W1.heap.size] W1).trans hRwz (fun i hi => .inl hi)).below (Nat.le_refl _) (by simp)) g12
#print axioms laid6_reg

noncomputable def laid8Code : Code := regById 8 (codesOf (Try.f9.body.getD .skip))
set_option maxRecDepth 100000 in
set_option maxHeartbeats 2000000 in
theorem laid8_reg (B bm k k' : Nat) (m m' : List Rc) (y : Addr) (n cap i s : Nat) (b : Int) (W1 : World) (HT : Hid (Tab W1 B bm k m)) (HP0 : Hid (W1.cell? (y.add (i * 3)) = some (.int .i64 b))) (HP1 : Hid (W1.cell? ((y.add (i * 3)).add 1) = some (.int .u32 (s : Int)))) (HPL : Hid (y.block < W1.heap.size)) (HPS : Hid (y.block ∉ [bm])) (hi : i < n)
    (HC : Hid (∀ wq, Tab wq B bm k m → Calls Try.prog 21 #[.pointer (some ⟨B, 0, none⟩), .int .i64 b, .int .u32 (s : Int)] wq fun e w' => (∃ v, e = .returned v) ∧ Tab w' B bm k' m' ∧ Touch [bm] wq w'))
    (c1 c2 c3 c5 c7 c8 c9 c10 c11 c12 c13 c14 c15 c16 c17 c18 c19 c20 c21 c22 c23 c24 c25 c26 c27 c28 c29 c30 c31 c32 c33 c34 c35 c36 c37 c38 c39 c40 c41 c42 c43 c44 c45 c46 c47 c48 c49 c50 c51 c52 c53 c54 c55 c56 c57 c58 c59 c60 c61 c62 c63 c64 c65 c66 c67 c68 c69 c70 c71 c72 c73 c74 c75 c76 c77 c78 c79 c80 c81 c82 c83 c84 c85 c86 c87 c88 c89 c90 c91 c92 c93 : Value) (Q : Exit → Act → World → Prop) (HK : Hid (∀ u33 u34 u35 u36 u37 u38 u39 u40 u41 u42 u43 u44 wz, Touch [bm] W1 wz → Tab wz B bm k' m' → Q .normal ⟨(.slice (some y) n cap :: c1 :: c2 :: c3 :: .pointer (some ⟨B, 0, none⟩) :: c5 :: .int .i64 (i : Int) :: c7 :: c8 :: c9 :: c10 :: c11 :: c12 :: c13 :: c14 :: c15 :: c16 :: c17 :: c18 :: c19 :: c20 :: c21 :: c22 :: c23 :: c24 :: c25 :: c26 :: c27 :: c28 :: c29 :: c30 :: c31 :: c32 :: u33 :: u34 :: u35 :: u36 :: u37 :: u38 :: u39 :: u40 :: u41 :: u42 :: u43 :: u44 :: c45 :: c46 :: c47 :: c48 :: c49 :: c50 :: c51 :: c52 :: c53 :: c54 :: c55 :: c56 :: c57 :: c58 :: c59 :: c60 :: c61 :: c62 :: c63 :: c64 :: c65 :: c66 :: c67 :: c68 :: c69 :: c70 :: c71 :: c72 :: c73 :: c74 :: c75 :: c76 :: c77 :: c78 :: c79 :: c80 :: c81 :: c82 :: c83 :: c84 :: c85 :: c86 :: c87 :: c88 :: c89 :: c90 :: c91 :: c92 :: c93 :: []).toArray, []⟩ wz)) : laid8Code.wp Try.prog Q ⟨(.slice (some y) n cap :: c1 :: c2 :: c3 :: .pointer (some ⟨B, 0, none⟩) :: c5 :: .int .i64 (i : Int) :: c7 :: c8 :: c9 :: c10 :: c11 :: c12 :: c13 :: c14 :: c15 :: c16 :: c17 :: c18 :: c19 :: c20 :: c21 :: c22 :: c23 :: c24 :: c25 :: c26 :: c27 :: c28 :: c29 :: c30 :: c31 :: c32 :: c33 :: c34 :: c35 :: c36 :: c37 :: c38 :: c39 :: c40 :: c41 :: c42 :: c43 :: c44 :: c45 :: c46 :: c47 :: c48 :: c49 :: c50 :: c51 :: c52 :: c53 :: c54 :: c55 :: c56 :: c57 :: c58 :: c59 :: c60 :: c61 :: c62 :: c63 :: c64 :: c65 :: c66 :: c67 :: c68 :: c69 :: c70 :: c71 :: c72 :: c73 :: c74 :: c75 :: c76 :: c77 :: c78 :: c79 :: c80 :: c81 :: c82 :: c83 :: c84 :: c85 :: c86 :: c87 :: c88 :: c89 :: c90 :: c91 :: c92 :: c93 :: []).toArray, []⟩ W1 := by
  have HB0 := Lib.hid (show (0 : Int) ≤ (i : Int) by omega)
  have HB1 := Lib.hid (show (i : Int) < (n : Int) by omega)
  have HN0 := Lib.hid (show ∀ p ∈ ([(11, fun wx => Tab wx B bm k m)] : List (Nat × (World → Prop))), p.2 W1.drew by
    intro p hp
    rw [List.mem_singleton] at hp
    subst hp
    exact HT.out.kept (Touch.drew [] W1) (by simp) (by simp))
  conv => arg 2; whnf
  refine wp_region_factsN [11] [(11, fun wx => Tab wx B bm k m)] (by kernel_rfl) [[], [], [], [(1, some 34), (2, some 35)], [(3, some 36)], [(4, some 37)], [], [], [(6, some 39), (7, some 40)], [(8, some 41)], [(9, some 42)], [(0, some 33), (5, some 38), (10, some 43)]] [(0, some 33), (1, some 34), (2, some 35), (3, some 36), (4, some 37), (5, some 38), (6, some 39), (7, some 40), (8, some 41), (9, some 42), (10, some 43), (11, some 44)] (by kernel_rfl) (by kernel_rfl) (by kernel_rfl) (Touch [bm]) (Touch.refl [bm]) (fun _ _ _ h h' => h.trans h' (fun i hi => .inl hi)) [Is (Value.pointer (some ⟨B, 0, none⟩)), Is (Value.slice (some y) n cap), Is (Value.int .i64 (i : Int)), Is (Value.pointer (some (y.add (i * 3)))), Is (Value.pointer (some (y.add (i * 3)))), Is (Value.int .i64 b), Is (Value.slice (some y) n cap), Is (Value.int .i64 (i : Int)), Is (Value.pointer (some (y.add (i * 3)))), Is (Value.pointer (some ((y.add (i * 3)).add 1))), Is (Value.int .u32 (s : Int)), (fun _ wx => Tab wx B bm k' m')] rfl ⟨.inr (is_stab _ _), .inr (is_stab _ _), .inr (is_stab _ _), .inr (is_stab _ _), .inr (is_stab _ _), .inr (is_stab _ _), .inr (is_stab _ _), .inr (is_stab _ _), .inr (is_stab _ _), .inr (is_stab _ _), .inr (is_stab _ _), .inl (by simp), trivial⟩ HN0.out ⟨?o0, ?o1, ?o2, ?o3, ?o4, ?o5, ?o6, ?o7, ?o8, ?o9, ?o10, ?o11, trivial⟩ ?_
  case o0 =>
    intro vals wq hRq hNq hpq
    simp only [List.getD_cons_zero, List.getD_cons_succ, canonP]
    simp only [Oper.gives]
    go_simp
    first | exact ⟨is_mk _ _, (Touch.refl [bm]) _⟩ | exact ⟨is_mk _ _, (Touch.refl [bm]) _, (fun _ _ _ _ h => h), (fun _ _ _ _ _ h => h)⟩
  case o1 =>
    intro vals wq hRq hNq hpq
    simp only [List.getD_cons_zero, List.getD_cons_succ, canonP]
    simp only [Oper.gives]
    go_simp
    first | exact ⟨is_mk _ _, (Touch.refl [bm]) _⟩ | exact ⟨is_mk _ _, (Touch.refl [bm]) _, (fun _ _ _ _ h => h), (fun _ _ _ _ _ h => h)⟩
  case o2 =>
    intro vals wq hRq hNq hpq
    simp only [List.getD_cons_zero, List.getD_cons_succ, canonP]
    simp only [Oper.gives]
    go_simp
    first | exact ⟨is_mk _ _, (Touch.refl [bm]) _⟩ | exact ⟨is_mk _ _, (Touch.refl [bm]) _, (fun _ _ _ _ h => h), (fun _ _ _ _ _ h => h)⟩
  case o3 =>
    intro vals wq hRq hNq hpq
    simp only [factsP, List.getD_cons_zero, List.getD_cons_succ] at hpq
    have f1 := hpq.1
    replace hpq := hpq.2
    have f2 := hpq.1
    replace hpq := hpq.2
    clear hpq
    replace f1 : vals 1 = _ := f1
    replace f2 : vals 2 = _ := f2
    simp only [List.getD_cons_zero, List.getD_cons_succ, canonP, f1, f2]
    clear f1 f2
    have b0 := HB0.out
    have b1 := HB1.out
    simp only [Oper.gives]
    go_simp
    first | exact ⟨is_mk _ _, Touch.refl _ _⟩ | exact ⟨is_mk _ _, Touch.refl _ _, (fun _ _ _ _ h => h), (fun _ _ _ _ _ h => h)⟩
  case o4 =>
    intro vals wq hRq hNq hpq
    simp only [factsP, List.getD_cons_zero, List.getD_cons_succ] at hpq
    have f3 := hpq.1
    replace hpq := hpq.2
    clear hpq
    replace f3 : vals 3 = _ := f3
    simp only [List.getD_cons_zero, List.getD_cons_succ, canonP, f3]
    clear f3
    simp only [Oper.gives]
    go_simp
    first | exact ⟨is_mk _ _, (Touch.refl [bm]) _⟩ | exact ⟨is_mk _ _, (Touch.refl [bm]) _, (fun _ _ _ _ h => h), (fun _ _ _ _ _ h => h)⟩
  case o5 =>
    intro vals wq hRq hNq hpq
    simp only [factsP, List.getD_cons_zero, List.getD_cons_succ] at hpq
    have f4 := hpq.1
    replace hpq := hpq.2
    clear hpq
    replace f4 : vals 4 = _ := f4
    simp only [List.getD_cons_zero, List.getD_cons_succ, canonP, f4]
    clear f4
    have hcc : wq.cell? (y.add (i * 3)) = some (.int .i64 b) := (hRq.cell (by rw [add_block]; exact HPL.out) (by rw [add_block]; exact HPS.out)).trans HP0.out
    simp only [Oper.gives]
    go_simp
    first | exact ⟨is_mk _ _, Touch.refl _ _⟩ | exact ⟨is_mk _ _, Touch.refl _ _, (fun _ _ _ _ h => h), (fun _ _ _ _ _ h => h)⟩
  case o6 =>
    intro vals wq hRq hNq hpq
    simp only [List.getD_cons_zero, List.getD_cons_succ, canonP]
    simp only [Oper.gives]
    go_simp
    first | exact ⟨is_mk _ _, (Touch.refl [bm]) _⟩ | exact ⟨is_mk _ _, (Touch.refl [bm]) _, (fun _ _ _ _ h => h), (fun _ _ _ _ _ h => h)⟩
  case o7 =>
    intro vals wq hRq hNq hpq
    simp only [List.getD_cons_zero, List.getD_cons_succ, canonP]
    simp only [Oper.gives]
    go_simp
    first | exact ⟨is_mk _ _, (Touch.refl [bm]) _⟩ | exact ⟨is_mk _ _, (Touch.refl [bm]) _, (fun _ _ _ _ h => h), (fun _ _ _ _ _ h => h)⟩
  case o8 =>
    intro vals wq hRq hNq hpq
    simp only [factsP, List.getD_cons_zero, List.getD_cons_succ] at hpq
    have f6 := hpq.1
    replace hpq := hpq.2
    have f7 := hpq.1
    replace hpq := hpq.2
    clear hpq
    replace f6 : vals 6 = _ := f6
    replace f7 : vals 7 = _ := f7
    simp only [List.getD_cons_zero, List.getD_cons_succ, canonP, f6, f7]
    clear f6 f7
    have b0 := HB0.out
    have b1 := HB1.out
    simp only [Oper.gives]
    go_simp
    first | exact ⟨is_mk _ _, Touch.refl _ _⟩ | exact ⟨is_mk _ _, Touch.refl _ _, (fun _ _ _ _ h => h), (fun _ _ _ _ _ h => h)⟩
  case o9 =>
    intro vals wq hRq hNq hpq
    simp only [factsP, List.getD_cons_zero, List.getD_cons_succ] at hpq
    have f8 := hpq.1
    replace hpq := hpq.2
    clear hpq
    replace f8 : vals 8 = _ := f8
    simp only [List.getD_cons_zero, List.getD_cons_succ, canonP, f8]
    clear f8
    simp only [Oper.gives]
    go_simp
    first | exact ⟨is_mk _ _, (Touch.refl [bm]) _⟩ | exact ⟨is_mk _ _, (Touch.refl [bm]) _, (fun _ _ _ _ h => h), (fun _ _ _ _ _ h => h)⟩
  case o10 =>
    intro vals wq hRq hNq hpq
    simp only [factsP, List.getD_cons_zero, List.getD_cons_succ] at hpq
    have f9 := hpq.1
    replace hpq := hpq.2
    clear hpq
    replace f9 : vals 9 = _ := f9
    simp only [List.getD_cons_zero, List.getD_cons_succ, canonP, f9]
    clear f9
    have hcc : wq.cell? ⟨(y.add (i * 3)).block, (y.add (i * 3)).off + 1, none⟩ = some (.int .u32 (s : Int)) := (hRq.cell (a := (y.add (i * 3)).add 1) (by rw [add_block, add_block]; exact HPL.out) (by rw [add_block, add_block]; exact HPS.out)).trans HP1.out
    simp only [Oper.gives]
    go_simp
    first | exact ⟨is_mk _ _, Touch.refl _ _⟩ | exact ⟨is_mk _ _, Touch.refl _ _, (fun _ _ _ _ h => h), (fun _ _ _ _ _ h => h)⟩
  case o11 =>
    intro vals wq hRq hNq hpq
    simp only [factsP, List.getD_cons_zero, List.getD_cons_succ] at hpq
    have f0 := hpq.1
    replace hpq := hpq.2
    have f5 := hpq.1
    replace hpq := hpq.2
    have f10 := hpq.1
    replace hpq := hpq.2
    clear hpq
    replace f0 : vals 0 = _ := f0
    replace f5 : vals 5 = _ := f5
    replace f10 : vals 10 = _ := f10
    simp only [List.getD_cons_zero, List.getD_cons_succ, canonP, f0, f5, f10]
    clear f0 f5 f10
    have htt : Tab wq B bm k m := hNq (11, fun wx => Tab wx B bm k m) (List.Mem.head _) rfl
    simp only [Oper.gives]
    go_simp
    refine (HC.out wq htt).mono ?_
    intro e w' hh
    exact ⟨hh.1, hh.2.1, hh.2.2⟩
  intro vals wz hRwz hfwz
  simp only [AllFacts] at hfwz
  have g0 := hfwz.1
  replace hfwz := hfwz.2
  have g1 := hfwz.1
  replace hfwz := hfwz.2
  have g2 := hfwz.1
  replace hfwz := hfwz.2
  have g3 := hfwz.1
  replace hfwz := hfwz.2
  have g4 := hfwz.1
  replace hfwz := hfwz.2
  have g5 := hfwz.1
  replace hfwz := hfwz.2
  have g6 := hfwz.1
  replace hfwz := hfwz.2
  have g7 := hfwz.1
  replace hfwz := hfwz.2
  have g8 := hfwz.1
  replace hfwz := hfwz.2
  have g9 := hfwz.1
  replace hfwz := hfwz.2
  have g10 := hfwz.1
  replace hfwz := hfwz.2
  have g11 := hfwz.1
  replace hfwz := hfwz.2
  clear hfwz
  replace g0 : vals 0 = _ := g0
  replace g1 : vals 1 = _ := g1
  replace g2 : vals 2 = _ := g2
  replace g3 : vals 3 = _ := g3
  replace g4 : vals 4 = _ := g4
  replace g5 : vals 5 = _ := g5
  replace g6 : vals 6 = _ := g6
  replace g7 : vals 7 = _ := g7
  replace g8 : vals 8 = _ := g8
  replace g9 : vals 9 = _ := g9
  replace g10 : vals 10 = _ := g10
  simp only [canonP, Act.put, List.setIfInBounds_toArray, List.set_cons_succ, List.set_cons_zero, g0, g1, g2, g3, g4, g5, g6, g7, g8, g9, g10]
  clear g0 g1 g2 g3 g4 g5 g6 g7 g8 g9 g10
  exact HK.out _ _ _ _ _ _ _ _ _ _ _ _ _ ((Touch.drew [bm] W1).trans hRwz (fun i hi => .inl hi)) g11
#print axioms laid8_reg

noncomputable def laid9Code : Code := regById 9 (codesOf (Try.f9.body.getD .skip))
set_option maxRecDepth 100000 in
set_option maxHeartbeats 2000000 in
theorem laid9_reg (B bm k k' : Nat) (m m' : List Rc) (y : Addr) (n cap i s : Nat) (b : Int) (W1 : World) (HT : Hid (Tab W1 B bm k m)) (HP0 : Hid (W1.cell? (y.add (i * 3)) = some (.int .i64 b))) (HP1 : Hid (W1.cell? ((y.add (i * 3)).add 1) = some (.int .u32 (s : Int)))) (HPL : Hid (y.block < W1.heap.size)) (HPS : Hid (y.block ∉ [bm])) (hi : i < n)
    (HC : Hid (∀ wq, Tab wq B bm k m → Calls Try.prog 20 #[.pointer (some ⟨B, 0, none⟩), .int .i64 b, .int .u32 (s : Int)] wq fun e w' => (∃ v, e = .returned v) ∧ Tab w' B bm k' m' ∧ Touch [bm] wq w'))
    (c1 c2 c3 c5 c7 c8 c9 c10 c11 c12 c13 c14 c15 c16 c17 c18 c19 c20 c21 c22 c23 c24 c25 c26 c27 c28 c29 c30 c31 c32 c33 c34 c35 c36 c37 c38 c39 c40 c41 c42 c43 c44 c45 c46 c47 c48 c49 c50 c51 c52 c53 c54 c55 c56 c57 c58 c59 c60 c61 c62 c63 c64 c65 c66 c67 c68 c69 c70 c71 c72 c73 c74 c75 c76 c77 c78 c79 c80 c81 c82 c83 c84 c85 c86 c87 c88 c89 c90 c91 c92 c93 : Value) (Q : Exit → Act → World → Prop) (HK : Hid (∀ u45 u46 u47 u48 u49 u50 u51 u52 u53 u54 u55 u56 wz, Touch [bm] W1 wz → Tab wz B bm k' m' → Q .normal ⟨(.slice (some y) n cap :: c1 :: c2 :: c3 :: .pointer (some ⟨B, 0, none⟩) :: c5 :: .int .i64 (i : Int) :: c7 :: c8 :: c9 :: c10 :: c11 :: c12 :: c13 :: c14 :: c15 :: c16 :: c17 :: c18 :: c19 :: c20 :: c21 :: c22 :: c23 :: c24 :: c25 :: c26 :: c27 :: c28 :: c29 :: c30 :: c31 :: c32 :: c33 :: c34 :: c35 :: c36 :: c37 :: c38 :: c39 :: c40 :: c41 :: c42 :: c43 :: c44 :: u45 :: u46 :: u47 :: u48 :: u49 :: u50 :: u51 :: u52 :: u53 :: u54 :: u55 :: u56 :: c57 :: c58 :: c59 :: c60 :: c61 :: c62 :: c63 :: c64 :: c65 :: c66 :: c67 :: c68 :: c69 :: c70 :: c71 :: c72 :: c73 :: c74 :: c75 :: c76 :: c77 :: c78 :: c79 :: c80 :: c81 :: c82 :: c83 :: c84 :: c85 :: c86 :: c87 :: c88 :: c89 :: c90 :: c91 :: c92 :: c93 :: []).toArray, []⟩ wz)) : laid9Code.wp Try.prog Q ⟨(.slice (some y) n cap :: c1 :: c2 :: c3 :: .pointer (some ⟨B, 0, none⟩) :: c5 :: .int .i64 (i : Int) :: c7 :: c8 :: c9 :: c10 :: c11 :: c12 :: c13 :: c14 :: c15 :: c16 :: c17 :: c18 :: c19 :: c20 :: c21 :: c22 :: c23 :: c24 :: c25 :: c26 :: c27 :: c28 :: c29 :: c30 :: c31 :: c32 :: c33 :: c34 :: c35 :: c36 :: c37 :: c38 :: c39 :: c40 :: c41 :: c42 :: c43 :: c44 :: c45 :: c46 :: c47 :: c48 :: c49 :: c50 :: c51 :: c52 :: c53 :: c54 :: c55 :: c56 :: c57 :: c58 :: c59 :: c60 :: c61 :: c62 :: c63 :: c64 :: c65 :: c66 :: c67 :: c68 :: c69 :: c70 :: c71 :: c72 :: c73 :: c74 :: c75 :: c76 :: c77 :: c78 :: c79 :: c80 :: c81 :: c82 :: c83 :: c84 :: c85 :: c86 :: c87 :: c88 :: c89 :: c90 :: c91 :: c92 :: c93 :: []).toArray, []⟩ W1 := by
  have HB0 := Lib.hid (show (0 : Int) ≤ (i : Int) by omega)
  have HB1 := Lib.hid (show (i : Int) < (n : Int) by omega)
  have HN0 := Lib.hid (show ∀ p ∈ ([(11, fun wx => Tab wx B bm k m)] : List (Nat × (World → Prop))), p.2 W1.drew by
    intro p hp
    rw [List.mem_singleton] at hp
    subst hp
    exact HT.out.kept (Touch.drew [] W1) (by simp) (by simp))
  conv => arg 2; whnf
  refine wp_region_factsN [11] [(11, fun wx => Tab wx B bm k m)] (by kernel_rfl) [[], [], [], [(1, some 46), (2, some 47)], [(3, some 48)], [(4, some 49)], [], [], [(6, some 51), (7, some 52)], [(8, some 53)], [(9, some 54)], [(0, some 45), (5, some 50), (10, some 55)]] [(0, some 45), (1, some 46), (2, some 47), (3, some 48), (4, some 49), (5, some 50), (6, some 51), (7, some 52), (8, some 53), (9, some 54), (10, some 55), (11, some 56)] (by kernel_rfl) (by kernel_rfl) (by kernel_rfl) (Touch [bm]) (Touch.refl [bm]) (fun _ _ _ h h' => h.trans h' (fun i hi => .inl hi)) [Is (Value.pointer (some ⟨B, 0, none⟩)), Is (Value.slice (some y) n cap), Is (Value.int .i64 (i : Int)), Is (Value.pointer (some (y.add (i * 3)))), Is (Value.pointer (some (y.add (i * 3)))), Is (Value.int .i64 b), Is (Value.slice (some y) n cap), Is (Value.int .i64 (i : Int)), Is (Value.pointer (some (y.add (i * 3)))), Is (Value.pointer (some ((y.add (i * 3)).add 1))), Is (Value.int .u32 (s : Int)), (fun _ wx => Tab wx B bm k' m')] rfl ⟨.inr (is_stab _ _), .inr (is_stab _ _), .inr (is_stab _ _), .inr (is_stab _ _), .inr (is_stab _ _), .inr (is_stab _ _), .inr (is_stab _ _), .inr (is_stab _ _), .inr (is_stab _ _), .inr (is_stab _ _), .inr (is_stab _ _), .inl (by simp), trivial⟩ HN0.out ⟨?o0, ?o1, ?o2, ?o3, ?o4, ?o5, ?o6, ?o7, ?o8, ?o9, ?o10, ?o11, trivial⟩ ?_
  case o0 =>
    intro vals wq hRq hNq hpq
    simp only [List.getD_cons_zero, List.getD_cons_succ, canonP]
    simp only [Oper.gives]
    go_simp
    first | exact ⟨is_mk _ _, (Touch.refl [bm]) _⟩ | exact ⟨is_mk _ _, (Touch.refl [bm]) _, (fun _ _ _ _ h => h), (fun _ _ _ _ _ h => h)⟩
  case o1 =>
    intro vals wq hRq hNq hpq
    simp only [List.getD_cons_zero, List.getD_cons_succ, canonP]
    simp only [Oper.gives]
    go_simp
    first | exact ⟨is_mk _ _, (Touch.refl [bm]) _⟩ | exact ⟨is_mk _ _, (Touch.refl [bm]) _, (fun _ _ _ _ h => h), (fun _ _ _ _ _ h => h)⟩
  case o2 =>
    intro vals wq hRq hNq hpq
    simp only [List.getD_cons_zero, List.getD_cons_succ, canonP]
    simp only [Oper.gives]
    go_simp
    first | exact ⟨is_mk _ _, (Touch.refl [bm]) _⟩ | exact ⟨is_mk _ _, (Touch.refl [bm]) _, (fun _ _ _ _ h => h), (fun _ _ _ _ _ h => h)⟩
  case o3 =>
    intro vals wq hRq hNq hpq
    simp only [factsP, List.getD_cons_zero, List.getD_cons_succ] at hpq
    have f1 := hpq.1
    replace hpq := hpq.2
    have f2 := hpq.1
    replace hpq := hpq.2
    clear hpq
    replace f1 : vals 1 = _ := f1
    replace f2 : vals 2 = _ := f2
    simp only [List.getD_cons_zero, List.getD_cons_succ, canonP, f1, f2]
    clear f1 f2
    have b0 := HB0.out
    have b1 := HB1.out
    simp only [Oper.gives]
    go_simp
    first | exact ⟨is_mk _ _, Touch.refl _ _⟩ | exact ⟨is_mk _ _, Touch.refl _ _, (fun _ _ _ _ h => h), (fun _ _ _ _ _ h => h)⟩
  case o4 =>
    intro vals wq hRq hNq hpq
    simp only [factsP, List.getD_cons_zero, List.getD_cons_succ] at hpq
    have f3 := hpq.1
    replace hpq := hpq.2
    clear hpq
    replace f3 : vals 3 = _ := f3
    simp only [List.getD_cons_zero, List.getD_cons_succ, canonP, f3]
    clear f3
    simp only [Oper.gives]
    go_simp
    first | exact ⟨is_mk _ _, (Touch.refl [bm]) _⟩ | exact ⟨is_mk _ _, (Touch.refl [bm]) _, (fun _ _ _ _ h => h), (fun _ _ _ _ _ h => h)⟩
  case o5 =>
    intro vals wq hRq hNq hpq
    simp only [factsP, List.getD_cons_zero, List.getD_cons_succ] at hpq
    have f4 := hpq.1
    replace hpq := hpq.2
    clear hpq
    replace f4 : vals 4 = _ := f4
    simp only [List.getD_cons_zero, List.getD_cons_succ, canonP, f4]
    clear f4
    have hcc : wq.cell? (y.add (i * 3)) = some (.int .i64 b) := (hRq.cell (by rw [add_block]; exact HPL.out) (by rw [add_block]; exact HPS.out)).trans HP0.out
    simp only [Oper.gives]
    go_simp
    first | exact ⟨is_mk _ _, Touch.refl _ _⟩ | exact ⟨is_mk _ _, Touch.refl _ _, (fun _ _ _ _ h => h), (fun _ _ _ _ _ h => h)⟩
  case o6 =>
    intro vals wq hRq hNq hpq
    simp only [List.getD_cons_zero, List.getD_cons_succ, canonP]
    simp only [Oper.gives]
    go_simp
    first | exact ⟨is_mk _ _, (Touch.refl [bm]) _⟩ | exact ⟨is_mk _ _, (Touch.refl [bm]) _, (fun _ _ _ _ h => h), (fun _ _ _ _ _ h => h)⟩
  case o7 =>
    intro vals wq hRq hNq hpq
    simp only [List.getD_cons_zero, List.getD_cons_succ, canonP]
    simp only [Oper.gives]
    go_simp
    first | exact ⟨is_mk _ _, (Touch.refl [bm]) _⟩ | exact ⟨is_mk _ _, (Touch.refl [bm]) _, (fun _ _ _ _ h => h), (fun _ _ _ _ _ h => h)⟩
  case o8 =>
    intro vals wq hRq hNq hpq
    simp only [factsP, List.getD_cons_zero, List.getD_cons_succ] at hpq
    have f6 := hpq.1
    replace hpq := hpq.2
    have f7 := hpq.1
    replace hpq := hpq.2
    clear hpq
    replace f6 : vals 6 = _ := f6
    replace f7 : vals 7 = _ := f7
    simp only [List.getD_cons_zero, List.getD_cons_succ, canonP, f6, f7]
    clear f6 f7
    have b0 := HB0.out
    have b1 := HB1.out
    simp only [Oper.gives]
    go_simp
    first | exact ⟨is_mk _ _, Touch.refl _ _⟩ | exact ⟨is_mk _ _, Touch.refl _ _, (fun _ _ _ _ h => h), (fun _ _ _ _ _ h => h)⟩
  case o9 =>
    intro vals wq hRq hNq hpq
    simp only [factsP, List.getD_cons_zero, List.getD_cons_succ] at hpq
    have f8 := hpq.1
    replace hpq := hpq.2
    clear hpq
    replace f8 : vals 8 = _ := f8
    simp only [List.getD_cons_zero, List.getD_cons_succ, canonP, f8]
    clear f8
    simp only [Oper.gives]
    go_simp
    first | exact ⟨is_mk _ _, (Touch.refl [bm]) _⟩ | exact ⟨is_mk _ _, (Touch.refl [bm]) _, (fun _ _ _ _ h => h), (fun _ _ _ _ _ h => h)⟩
  case o10 =>
    intro vals wq hRq hNq hpq
    simp only [factsP, List.getD_cons_zero, List.getD_cons_succ] at hpq
    have f9 := hpq.1
    replace hpq := hpq.2
    clear hpq
    replace f9 : vals 9 = _ := f9
    simp only [List.getD_cons_zero, List.getD_cons_succ, canonP, f9]
    clear f9
    have hcc : wq.cell? ⟨(y.add (i * 3)).block, (y.add (i * 3)).off + 1, none⟩ = some (.int .u32 (s : Int)) := (hRq.cell (a := (y.add (i * 3)).add 1) (by rw [add_block, add_block]; exact HPL.out) (by rw [add_block, add_block]; exact HPS.out)).trans HP1.out
    simp only [Oper.gives]
    go_simp
    first | exact ⟨is_mk _ _, Touch.refl _ _⟩ | exact ⟨is_mk _ _, Touch.refl _ _, (fun _ _ _ _ h => h), (fun _ _ _ _ _ h => h)⟩
  case o11 =>
    intro vals wq hRq hNq hpq
    simp only [factsP, List.getD_cons_zero, List.getD_cons_succ] at hpq
    have f0 := hpq.1
    replace hpq := hpq.2
    have f5 := hpq.1
    replace hpq := hpq.2
    have f10 := hpq.1
    replace hpq := hpq.2
    clear hpq
    replace f0 : vals 0 = _ := f0
    replace f5 : vals 5 = _ := f5
    replace f10 : vals 10 = _ := f10
    simp only [List.getD_cons_zero, List.getD_cons_succ, canonP, f0, f5, f10]
    clear f0 f5 f10
    have htt : Tab wq B bm k m := hNq (11, fun wx => Tab wx B bm k m) (List.Mem.head _) rfl
    simp only [Oper.gives]
    go_simp
    refine (HC.out wq htt).mono ?_
    intro e w' hh
    exact ⟨hh.1, hh.2.1, hh.2.2⟩
  intro vals wz hRwz hfwz
  simp only [AllFacts] at hfwz
  have g0 := hfwz.1
  replace hfwz := hfwz.2
  have g1 := hfwz.1
  replace hfwz := hfwz.2
  have g2 := hfwz.1
  replace hfwz := hfwz.2
  have g3 := hfwz.1
  replace hfwz := hfwz.2
  have g4 := hfwz.1
  replace hfwz := hfwz.2
  have g5 := hfwz.1
  replace hfwz := hfwz.2
  have g6 := hfwz.1
  replace hfwz := hfwz.2
  have g7 := hfwz.1
  replace hfwz := hfwz.2
  have g8 := hfwz.1
  replace hfwz := hfwz.2
  have g9 := hfwz.1
  replace hfwz := hfwz.2
  have g10 := hfwz.1
  replace hfwz := hfwz.2
  have g11 := hfwz.1
  replace hfwz := hfwz.2
  clear hfwz
  replace g0 : vals 0 = _ := g0
  replace g1 : vals 1 = _ := g1
  replace g2 : vals 2 = _ := g2
  replace g3 : vals 3 = _ := g3
  replace g4 : vals 4 = _ := g4
  replace g5 : vals 5 = _ := g5
  replace g6 : vals 6 = _ := g6
  replace g7 : vals 7 = _ := g7
  replace g8 : vals 8 = _ := g8
  replace g9 : vals 9 = _ := g9
  replace g10 : vals 10 = _ := g10
  simp only [canonP, Act.put, List.setIfInBounds_toArray, List.set_cons_succ, List.set_cons_zero, g0, g1, g2, g3, g4, g5, g6, g7, g8, g9, g10]
  clear g0 g1 g2 g3 g4 g5 g6 g7 g8 g9 g10
  exact HK.out _ _ _ _ _ _ _ _ _ _ _ _ _ ((Touch.drew [bm] W1).trans hRwz (fun i hi => .inl hi)) g11
#print axioms laid9_reg

end Go.Proofs.Ytbpejjgjjjmlkaa
