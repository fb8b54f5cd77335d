/- The law's does: its regions. -/
import Derived.Test.YtbpejjgjjjmlkaaR19
set_option linter.unusedVariables false
set_option linter.unusedSimpArgs false
namespace Go.Proofs.Ytbpejjgjjjmlkaa
open Go.RowKit

theorem gives_call_post {P : Program} {o : Oper} {a : Act} {w : World} {T : Value → World → Prop} {f : FuncId} {args : Array Value} (h : (execOp a.eval o).run P w = .ok (.enter f args) w) (hc : Calls P f args w fun e w'' => ∃ v, e = .returned v ∧ T v w'') : Oper.gives P o a w T := by
  unfold Oper.gives; rw [h]; exact hc
/-- the document's table behind a call -/
def ROut (W : World) (R : Nat) (vl : Value) (m' : List Rc) (w : World) : Prop := ∃ vl', RTab w R vl' m' ∧ ∀ g, vl'.ownBlock = some g → vl.ownBlock = some g ∨ W.heap.size ≤ g

noncomputable def does3Code : Code := regById 3 (codesOf (Try.f15.body.getD .skip))
set_option maxRecDepth 100000 in
set_option maxHeartbeats 2000000 in
theorem does3_reg (B bm R P k k' : Nat) (vl : Value) (m m' : List Rc) (b c : Int) (s : Nat) (W1 : World) (HT : Hid (Tab W1 B bm k m)) (HRT : Hid (RTab W1 R vl m)) (HP1 : Hid (W1.cell? ⟨P, 1, none⟩ = some (.int .i64 b))) (HP2 : Hid (W1.cell? ⟨P, 2, none⟩ = some (.int .u32 (s : Int)))) (HPL : Hid (P < W1.heap.size)) (HPS : Hid (P ∉ [bm, R])) (HRB : Hid (R ∉ [bm])) (HOB : Hid (∀ g, vl.ownBlock = some g → g ∉ [bm])) (HBR : Hid (B ∉ [R] ∧ bm ∉ [R]))
    (HC : Hid (∀ wq, Tab wq B bm k m → Calls Try.prog 21 #[.pointer (some ⟨B, 0, none⟩), .int .i64 b, .int .u32 (s : Int)] wq fun e w' => e = .returned (.int .i64 c) ∧ Tab w' B bm k' m' ∧ Touch [bm] wq w'))
    (HD : Hid (∀ wq, RTab wq R vl m → Calls Try.prog 26 #[.pointer (some ⟨R, 0, none⟩), .int .i64 b, .int .u32 (s : Int)] wq fun e w' => e = .returned (.int .i64 c) ∧ ROut wq R vl m' w' ∧ Touch [R] wq w'))
    (c2 c3 c4 c6 c7 c8 c9 c10 c11 c12 c13 c14 c15 c16 c17 c18 c19 c20 c21 c22 c23 c24 c25 c26 c27 c28 c29 c30 c31 c32 c33 c34 c35 c36 c37 c38 c39 c40 c41 c42 c43 c44 c45 c46 c47 : Value) (Q : Exit → Act → World → Prop) (HK : Hid (∀ u12 u13 u14 u15 u16 u17 u18 u19 u20 u21 u22 u23 u24 wz, Touch [bm, R] W1 wz → Tab wz B bm k' m' → ROut W1 R vl m' wz → Q .normal ⟨(.pointer (some ⟨B, 0, none⟩) :: .pointer (some ⟨R, 0, none⟩) :: c2 :: c3 :: c4 :: .pointer (some ⟨P, 0, none⟩) :: .bool true :: c7 :: c8 :: c9 :: c10 :: c11 :: u12 :: u13 :: u14 :: u15 :: u16 :: u17 :: u18 :: u19 :: u20 :: u21 :: u22 :: u23 :: u24 :: c25 :: c26 :: c27 :: c28 :: c29 :: c30 :: c31 :: c32 :: c33 :: c34 :: c35 :: c36 :: c37 :: c38 :: c39 :: c40 :: c41 :: c42 :: c43 :: c44 :: c45 :: c46 :: c47 :: []).toArray, []⟩ wz)) : does3Code.wp Try.prog Q ⟨(.pointer (some ⟨B, 0, none⟩) :: .pointer (some ⟨R, 0, none⟩) :: c2 :: c3 :: c4 :: .pointer (some ⟨P, 0, none⟩) :: c6 :: c7 :: c8 :: c9 :: c10 :: c11 :: c12 :: c13 :: c14 :: c15 :: c16 :: c17 :: c18 :: c19 :: c20 :: c21 :: c22 :: c23 :: c24 :: c25 :: c26 :: c27 :: c28 :: c29 :: c30 :: c31 :: c32 :: c33 :: c34 :: c35 :: c36 :: c37 :: c38 :: c39 :: c40 :: c41 :: c42 :: c43 :: c44 :: c45 :: c46 :: c47 :: []).toArray, []⟩ W1 := by
  have HN0 := Lib.hid (show ∀ p ∈ ([(5, fun wx => Tab wx B bm k m), (11, fun wx => RTab wx R vl m)] : List (Nat × (World → Prop))), p.2 W1.drew by
    intro p hp
    simp only [List.mem_cons, List.not_mem_nil, or_false] at hp
    rcases hp with rfl | rfl
    · exact HT.out.kept (Touch.drew [] W1) (by simp) (by simp)
    · exact HRT.out.kept0 (Touch.drew [] W1))
  conv => arg 2; whnf
  refine wp_region_factsN [5, 11] [(5, fun wx => Tab wx B bm k m), (11, fun wx => RTab wx R vl m)] (by kernel_rfl) [[], [], [(1, some 13)], [], [(3, some 15)], [(0, some 12), (2, some 14), (4, some 16)], [], [], [(7, some 19)], [], [(9, some 21)], [(5, some 17), (6, some 18), (8, some 20), (10, some 22)], [(5, some 17), (11, some 23)], [(0, some 12), (1, some 13), (2, some 14), (3, some 15), (4, some 16), (5, some 17), (6, some 18), (7, some 19), (8, some 20), (9, some 21), (10, some 22), (11, some 23), (12, some 24)]] [(0, some 12), (1, some 13), (2, some 14), (3, some 15), (4, some 16), (5, some 17), (6, some 18), (7, some 19), (8, some 20), (9, some 21), (10, some 22), (11, some 23), (12, some 24), (13, some 6)] (by kernel_rfl) (by kernel_rfl) (by kernel_rfl) (Touch [bm, R]) (Touch.refl [bm, R]) (fun _ _ _ h h' => h.trans h' (fun i hi => .inl hi)) [Is (Value.pointer (some ⟨B, 0, none⟩)), Is (Value.pointer (some ⟨P, 1, none⟩)), Is (Value.int .i64 b), Is (Value.pointer (some ⟨P, 2, none⟩)), Is (Value.int .u32 (s : Int)), (fun v wx => v = .int .i64 c ∧ Tab wx B bm k' m'), Is (Value.pointer (some ⟨R, 0, none⟩)), Is (Value.pointer (some ⟨P, 1, none⟩)), Is (Value.int .i64 b), Is (Value.pointer (some ⟨P, 2, none⟩)), Is (Value.int .u32 (s : Int)), (fun v wx => v = .int .i64 c ∧ ROut W1 R vl m' wx), Is (Value.bool true), Is (Value.bool true)] rfl ⟨.inr (is_stab _ _), .inr (is_stab _ _), .inr (is_stab _ _), .inr (is_stab _ _), .inr (is_stab _ _), .inl (by simp), .inr (is_stab _ _), .inr (is_stab _ _), .inr (is_stab _ _), .inr (is_stab _ _), .inr (is_stab _ _), .inl (by simp), .inr (is_stab _ _), .inr (is_stab _ _), trivial⟩ HN0.out ⟨?o0, ?o1, ?o2, ?o3, ?o4, ?o5, ?o6, ?o7, ?o8, ?o9, ?o10, ?o11, ?o12, ?o13, trivial⟩ ?_
  case o0 =>
    intro vals wq hRq hNq hpq
    simp only [List.getD_cons_zero, List.getD_cons_succ, canonP]
    simp only [Oper.gives]
    go_simp
    first | exact ⟨is_mk _ _, (Touch.refl [bm, R]) _⟩ | exact ⟨is_mk _ _, (Touch.refl [bm, R]) _, (fun _ _ _ _ h => h), (fun _ _ _ _ _ h => h)⟩
  case o1 =>
    intro vals wq hRq hNq hpq
    simp only [List.getD_cons_zero, List.getD_cons_succ, canonP]
    simp only [Oper.gives]
    go_simp
    first | exact ⟨is_mk _ _, (Touch.refl [bm, R]) _⟩ | exact ⟨is_mk _ _, (Touch.refl [bm, R]) _, (fun _ _ _ _ h => h), (fun _ _ _ _ _ h => h)⟩
  case o2 =>
    intro vals wq hRq hNq hpq
    simp only [factsP, List.getD_cons_zero, List.getD_cons_succ] at hpq
    have f1 := hpq.1
    replace hpq := hpq.2
    clear hpq
    replace f1 : vals 1 = _ := f1
    simp only [List.getD_cons_zero, List.getD_cons_succ, canonP, f1]
    clear f1
    have hcc : wq.cell? ⟨P, 1, none⟩ = some (.int .i64 b) := (hRq.cell (a := ⟨P, 1, none⟩) HPL.out HPS.out).trans HP1.out
    simp only [Oper.gives]
    go_simp
    first | exact ⟨is_mk _ _, Touch.refl _ _⟩ | exact ⟨is_mk _ _, Touch.refl _ _, (fun _ _ _ _ h => h), (fun _ _ _ _ _ h => h)⟩
  case o3 =>
    intro vals wq hRq hNq hpq
    simp only [List.getD_cons_zero, List.getD_cons_succ, canonP]
    simp only [Oper.gives]
    go_simp
    first | exact ⟨is_mk _ _, (Touch.refl [bm, R]) _⟩ | exact ⟨is_mk _ _, (Touch.refl [bm, R]) _, (fun _ _ _ _ h => h), (fun _ _ _ _ _ h => h)⟩
  case o4 =>
    intro vals wq hRq hNq hpq
    simp only [factsP, List.getD_cons_zero, List.getD_cons_succ] at hpq
    have f3 := hpq.1
    replace hpq := hpq.2
    clear hpq
    replace f3 : vals 3 = _ := f3
    simp only [List.getD_cons_zero, List.getD_cons_succ, canonP, f3]
    clear f3
    have hcc : wq.cell? ⟨P, 2, none⟩ = some (.int .u32 (s : Int)) := (hRq.cell (a := ⟨P, 2, none⟩) HPL.out HPS.out).trans HP2.out
    simp only [Oper.gives]
    go_simp
    first | exact ⟨is_mk _ _, Touch.refl _ _⟩ | exact ⟨is_mk _ _, Touch.refl _ _, (fun _ _ _ _ h => h), (fun _ _ _ _ _ h => h)⟩
  case o5 =>
    intro vals wq hRq hNq hpq
    simp only [factsP, List.getD_cons_zero, List.getD_cons_succ] at hpq
    have f0 := hpq.1
    replace hpq := hpq.2
    have f2 := hpq.1
    replace hpq := hpq.2
    have f4 := hpq.1
    replace hpq := hpq.2
    clear hpq
    replace f0 : vals 0 = _ := f0
    replace f2 : vals 2 = _ := f2
    replace f4 : vals 4 = _ := f4
    simp only [List.getD_cons_zero, List.getD_cons_succ, canonP, f0, f2, f4]
    clear f0 f2 f4
    have htt : Tab wq B bm k m := hNq (5, fun wx => Tab wx B bm k m) (List.Mem.head _) rfl
    rw [if_pos (by rfl)]
    refine gives_call_post (f := 21) (args := #[.pointer (some ⟨B, 0, none⟩), .int .i64 b, .int .u32 (s : Int)]) (by unfold execOp; go_simp) ((HC.out wq htt).mono ?_)
    intro e w' hh
    refine ⟨_, hh.1, ⟨rfl, hh.2.1⟩, hh.2.2.mono (fun i hi => .inl (by simp at hi; simp [hi])), ?_, ?_⟩
    · intro p hp hn _ h; simp only [List.mem_cons, List.not_mem_nil, or_false] at hp; rcases hp with rfl | rfl
      · exact absurd rfl hn
      · exact RTab.kept h hh.2.2 HRB.out HOB.out
    · intro q hq hne hnp; exact absurd hq (by intro hq; simp at hq; rcases hq with rfl | rfl <;> first | exact hne rfl | exact hnp (by simp))
  case o6 =>
    intro vals wq hRq hNq hpq
    simp only [List.getD_cons_zero, List.getD_cons_succ, canonP]
    simp only [Oper.gives]
    go_simp
    first | exact ⟨is_mk _ _, (Touch.refl [bm, R]) _⟩ | exact ⟨is_mk _ _, (Touch.refl [bm, R]) _, (fun _ _ _ _ h => h), (fun _ _ _ _ _ h => h)⟩
  case o7 =>
    intro vals wq hRq hNq hpq
    simp only [List.getD_cons_zero, List.getD_cons_succ, canonP]
    simp only [Oper.gives]
    go_simp
    first | exact ⟨is_mk _ _, (Touch.refl [bm, R]) _⟩ | exact ⟨is_mk _ _, (Touch.refl [bm, R]) _, (fun _ _ _ _ h => h), (fun _ _ _ _ _ h => h)⟩
  case o8 =>
    intro vals wq hRq hNq hpq
    simp only [factsP, List.getD_cons_zero, List.getD_cons_succ] at hpq
    have f7 := hpq.1
    replace hpq := hpq.2
    clear hpq
    replace f7 : vals 7 = _ := f7
    simp only [List.getD_cons_zero, List.getD_cons_succ, canonP, f7]
    clear f7
    have hcc : wq.cell? ⟨P, 1, none⟩ = some (.int .i64 b) := (hRq.cell (a := ⟨P, 1, none⟩) HPL.out HPS.out).trans HP1.out
    simp only [Oper.gives]
    go_simp
    first | exact ⟨is_mk _ _, Touch.refl _ _⟩ | exact ⟨is_mk _ _, Touch.refl _ _, (fun _ _ _ _ h => h), (fun _ _ _ _ _ h => h)⟩
  case o9 =>
    intro vals wq hRq hNq hpq
    simp only [List.getD_cons_zero, List.getD_cons_succ, canonP]
    simp only [Oper.gives]
    go_simp
    first | exact ⟨is_mk _ _, (Touch.refl [bm, R]) _⟩ | exact ⟨is_mk _ _, (Touch.refl [bm, R]) _, (fun _ _ _ _ h => h), (fun _ _ _ _ _ h => h)⟩
  case o10 =>
    intro vals wq hRq hNq hpq
    simp only [factsP, List.getD_cons_zero, List.getD_cons_succ] at hpq
    have f9 := hpq.1
    replace hpq := hpq.2
    clear hpq
    replace f9 : vals 9 = _ := f9
    simp only [List.getD_cons_zero, List.getD_cons_succ, canonP, f9]
    clear f9
    have hcc : wq.cell? ⟨P, 2, none⟩ = some (.int .u32 (s : Int)) := (hRq.cell (a := ⟨P, 2, none⟩) HPL.out HPS.out).trans HP2.out
    simp only [Oper.gives]
    go_simp
    first | exact ⟨is_mk _ _, Touch.refl _ _⟩ | exact ⟨is_mk _ _, Touch.refl _ _, (fun _ _ _ _ h => h), (fun _ _ _ _ _ h => h)⟩
  case o11 =>
    intro vals wq hRq hNq hpq
    simp only [factsP, List.getD_cons_zero, List.getD_cons_succ] at hpq
    have f5 := hpq.1
    replace hpq := hpq.2
    have f6 := hpq.1
    replace hpq := hpq.2
    have f8 := hpq.1
    replace hpq := hpq.2
    have f10 := hpq.1
    replace hpq := hpq.2
    clear hpq
    replace f6 : vals 6 = _ := f6
    replace f8 : vals 8 = _ := f8
    replace f10 : vals 10 = _ := f10
    simp only [List.getD_cons_zero, List.getD_cons_succ, canonP, f6, f8, f10]
    clear f6 f8 f10
    have htt : RTab wq R vl m := hNq (11, fun wx => RTab wx R vl m) (List.Mem.tail _ (List.Mem.head _)) rfl
    have hsz : W1.heap.size ≤ wq.heap.size := hRq.size
    rw [if_pos (by rfl)]
    refine gives_call_post (f := 26) (args := #[.pointer (some ⟨R, 0, none⟩), .int .i64 b, .int .u32 (s : Int)]) (by unfold execOp; go_simp) ((HD.out wq htt).mono ?_)
    intro e w' hh
    refine ⟨_, hh.1, ⟨rfl, hh.2.1.elim fun x hx => ⟨x, hx.1, fun g e => (hx.2 g e).imp id (Nat.le_trans hsz)⟩⟩, hh.2.2.mono (fun i hi => .inl (by simp at hi; simp [hi])), ?_, ?_⟩
    · intro p hp hn hnp h; simp only [List.mem_cons, List.not_mem_nil, or_false] at hp; rcases hp with rfl | rfl
      · exact absurd (by simp) hnp
      · exact absurd rfl hn
    · intro q hq hne hnp u hu; simp only [List.mem_cons, List.not_mem_nil, or_false] at hq; rcases hq with rfl | rfl
      · exact ⟨hu.1, hu.2.kept hh.2.2 HBR.out.1 HBR.out.2⟩
      · exact absurd rfl hne
  case o12 =>
    intro vals wq hRq hNq hpq
    simp only [factsP, List.getD_cons_zero, List.getD_cons_succ] at hpq
    have f5 := hpq.1
    replace hpq := hpq.2
    have f11 := hpq.1
    replace hpq := hpq.2
    clear hpq
    simp only [List.getD_cons_zero, List.getD_cons_succ, canonP]
    simp only [f5.1, f11.1]
    simp only [Oper.gives]
    go_simp
    first | exact ⟨is_mk _ _, Touch.refl _ _⟩ | exact ⟨is_mk _ _, Touch.refl _ _, (fun _ _ _ _ h => h), (fun _ _ _ _ _ h => h)⟩
  case o13 =>
    intro vals wq hRq hNq hpq
    simp only [factsP, List.getD_cons_zero, List.getD_cons_succ] at hpq
    have f0 := hpq.1
    replace hpq := hpq.2
    have f1 := hpq.1
    replace hpq := hpq.2
    have f2 := hpq.1
    replace hpq := hpq.2
    have f3 := hpq.1
    replace hpq := hpq.2
    have f4 := hpq.1
    replace hpq := hpq.2
    have f5 := hpq.1
    replace hpq := hpq.2
    have f6 := hpq.1
    replace hpq := hpq.2
    have f7 := hpq.1
    replace hpq := hpq.2
    have f8 := hpq.1
    replace hpq := hpq.2
    have f9 := hpq.1
    replace hpq := hpq.2
    have f10 := hpq.1
    replace hpq := hpq.2
    have f11 := hpq.1
    replace hpq := hpq.2
    have f12 := hpq.1
    replace hpq := hpq.2
    clear hpq
    replace f0 : vals 0 = _ := f0
    replace f1 : vals 1 = _ := f1
    replace f2 : vals 2 = _ := f2
    replace f3 : vals 3 = _ := f3
    replace f4 : vals 4 = _ := f4
    replace f6 : vals 6 = _ := f6
    replace f7 : vals 7 = _ := f7
    replace f8 : vals 8 = _ := f8
    replace f9 : vals 9 = _ := f9
    replace f10 : vals 10 = _ := f10
    replace f12 : vals 12 = _ := f12
    simp only [List.getD_cons_zero, List.getD_cons_succ, canonP, f0, f1, f2, f3, f4, f6, f7, f8, f9, f10, f12]
    clear f0 f1 f2 f3 f4 f6 f7 f8 f9 f10 f12
    simp only [Oper.gives]
    go_simp
    first | exact ⟨is_mk _ _, (Touch.refl [bm, R]) _⟩ | exact ⟨is_mk _ _, (Touch.refl [bm, R]) _, (fun _ _ _ _ h => h), (fun _ _ _ _ _ h => h)⟩
  intro vals wz hRwz hfwz
  simp only [AllFacts] at hfwz
  have g0 := hfwz.1
  replace hfwz := hfwz.2
  have g1 := hfwz.1
  replace hfwz := hfwz.2
  have g2 := hfwz.1
  replace hfwz := hfwz.2
  have g3 := hfwz.1
  replace hfwz := hfwz.2
  have g4 := hfwz.1
  replace hfwz := hfwz.2
  have g5 := hfwz.1
  replace hfwz := hfwz.2
  have g6 := hfwz.1
  replace hfwz := hfwz.2
  have g7 := hfwz.1
  replace hfwz := hfwz.2
  have g8 := hfwz.1
  replace hfwz := hfwz.2
  have g9 := hfwz.1
  replace hfwz := hfwz.2
  have g10 := hfwz.1
  replace hfwz := hfwz.2
  have g11 := hfwz.1
  replace hfwz := hfwz.2
  have g12 := hfwz.1
  replace hfwz := hfwz.2
  have g13 := hfwz.1
  replace hfwz := hfwz.2
  clear hfwz
  replace g0 : vals 0 = _ := g0
  replace g1 : vals 1 = _ := g1
  replace g2 : vals 2 = _ := g2
  replace g3 : vals 3 = _ := g3
  replace g4 : vals 4 = _ := g4
  replace g6 : vals 6 = _ := g6
  replace g7 : vals 7 = _ := g7
  replace g8 : vals 8 = _ := g8
  replace g9 : vals 9 = _ := g9
  replace g10 : vals 10 = _ := g10
  replace g12 : vals 12 = _ := g12
  replace g13 : vals 13 = _ := g13
  simp only [canonP, Act.put, List.setIfInBounds_toArray, List.set_cons_succ, List.set_cons_zero, g0, g1, g2, g3, g4, g6, g7, g8, g9, g10, g12, g13]
  clear g0 g1 g2 g3 g4 g6 g7 g8 g9 g10 g12 g13
  rw [g5.1, g11.1]
  exact HK.out _ _ _ _ _ _ _ _ _ _ _ _ _ _ ((Touch.drew [bm, R] W1).trans hRwz (fun i hi => .inl hi)) g5.2 g11.2
#print axioms does3_reg

noncomputable def does8Code : Code := regById 8 (codesOf (Try.f15.body.getD .skip))
set_option maxRecDepth 100000 in
set_option maxHeartbeats 2000000 in
theorem does8_reg (B bm R P k k' : Nat) (vl : Value) (m m' : List Rc) (b c : Int) (s : Nat) (W1 : World) (HT : Hid (Tab W1 B bm k m)) (HRT : Hid (RTab W1 R vl m)) (HP1 : Hid (W1.cell? ⟨P, 1, none⟩ = some (.int .i64 b))) (HP2 : Hid (W1.cell? ⟨P, 2, none⟩ = some (.int .u32 (s : Int)))) (HPL : Hid (P < W1.heap.size)) (HPS : Hid (P ∉ [bm, R])) (HRB : Hid (R ∉ [bm])) (HOB : Hid (∀ g, vl.ownBlock = some g → g ∉ [bm])) (HBR : Hid (B ∉ [R] ∧ bm ∉ [R]))
    (HC : Hid (∀ wq, Tab wq B bm k m → Calls Try.prog 20 #[.pointer (some ⟨B, 0, none⟩), .int .i64 b, .int .u32 (s : Int)] wq fun e w' => e = .returned (.int .i64 c) ∧ Tab w' B bm k' m' ∧ Touch [bm] wq w'))
    (HD : Hid (∀ wq, RTab wq R vl m → Calls Try.prog 28 #[.pointer (some ⟨R, 0, none⟩), .int .i64 b, .int .u32 (s : Int)] wq fun e w' => e = .returned (.int .i64 c) ∧ ROut wq R vl m' w' ∧ Touch [R] wq w'))
    (c2 c3 c4 c6 c7 c8 c9 c10 c11 c12 c13 c14 c15 c16 c17 c18 c19 c20 c21 c22 c23 c24 c25 c26 c27 c28 c29 c30 c31 c32 c33 c34 c35 c36 c37 c38 c39 c40 c41 c42 c43 c44 c45 c46 c47 : Value) (Q : Exit → Act → World → Prop) (HK : Hid (∀ u35 u36 u37 u38 u39 u40 u41 u42 u43 u44 u45 u46 u47 wz, Touch [bm, R] W1 wz → Tab wz B bm k' m' → ROut W1 R vl m' wz → Q .normal ⟨(.pointer (some ⟨B, 0, none⟩) :: .pointer (some ⟨R, 0, none⟩) :: c2 :: c3 :: c4 :: .pointer (some ⟨P, 0, none⟩) :: .bool true :: c7 :: c8 :: c9 :: c10 :: c11 :: c12 :: c13 :: c14 :: c15 :: c16 :: c17 :: c18 :: c19 :: c20 :: c21 :: c22 :: c23 :: c24 :: c25 :: c26 :: c27 :: c28 :: c29 :: c30 :: c31 :: c32 :: c33 :: c34 :: u35 :: u36 :: u37 :: u38 :: u39 :: u40 :: u41 :: u42 :: u43 :: u44 :: u45 :: u46 :: u47 :: []).toArray, []⟩ wz)) : does8Code.wp Try.prog Q ⟨(.pointer (some ⟨B, 0, none⟩) :: .pointer (some ⟨R, 0, none⟩) :: c2 :: c3 :: c4 :: .pointer (some ⟨P, 0, none⟩) :: c6 :: c7 :: c8 :: c9 :: c10 :: c11 :: c12 :: c13 :: c14 :: c15 :: c16 :: c17 :: c18 :: c19 :: c20 :: c21 :: c22 :: c23 :: c24 :: c25 :: c26 :: c27 :: c28 :: c29 :: c30 :: c31 :: c32 :: c33 :: c34 :: c35 :: c36 :: c37 :: c38 :: c39 :: c40 :: c41 :: c42 :: c43 :: c44 :: c45 :: c46 :: c47 :: []).toArray, []⟩ W1 := by
  have HN0 := Lib.hid (show ∀ p ∈ ([(5, fun wx => Tab wx B bm k m), (11, fun wx => RTab wx R vl m)] : List (Nat × (World → Prop))), p.2 W1.drew by
    intro p hp
    simp only [List.mem_cons, List.not_mem_nil, or_false] at hp
    rcases hp with rfl | rfl
    · exact HT.out.kept (Touch.drew [] W1) (by simp) (by simp)
    · exact HRT.out.kept0 (Touch.drew [] W1))
  conv => arg 2; whnf
  refine wp_region_factsN [5, 11] [(5, fun wx => Tab wx B bm k m), (11, fun wx => RTab wx R vl m)] (by kernel_rfl) [[], [], [(1, some 36)], [], [(3, some 38)], [(0, some 35), (2, some 37), (4, some 39)], [], [], [(7, some 42)], [], [(9, some 44)], [(5, some 40), (6, some 41), (8, some 43), (10, some 45)], [(5, some 40), (11, some 46)], [(0, some 35), (1, some 36), (2, some 37), (3, some 38), (4, some 39), (5, some 40), (6, some 41), (7, some 42), (8, some 43), (9, some 44), (10, some 45), (11, some 46), (12, some 47)]] [(0, some 35), (1, some 36), (2, some 37), (3, some 38), (4, some 39), (5, some 40), (6, some 41), (7, some 42), (8, some 43), (9, some 44), (10, some 45), (11, some 46), (12, some 47), (13, some 6)] (by kernel_rfl) (by kernel_rfl) (by kernel_rfl) (Touch [bm, R]) (Touch.refl [bm, R]) (fun _ _ _ h h' => h.trans h' (fun i hi => .inl hi)) [Is (Value.pointer (some ⟨B, 0, none⟩)), Is (Value.pointer (some ⟨P, 1, none⟩)), Is (Value.int .i64 b), Is (Value.pointer (some ⟨P, 2, none⟩)), Is (Value.int .u32 (s : Int)), (fun v wx => v = .int .i64 c ∧ Tab wx B bm k' m'), Is (Value.pointer (some ⟨R, 0, none⟩)), Is (Value.pointer (some ⟨P, 1, none⟩)), Is (Value.int .i64 b), Is (Value.pointer (some ⟨P, 2, none⟩)), Is (Value.int .u32 (s : Int)), (fun v wx => v = .int .i64 c ∧ ROut W1 R vl m' wx), Is (Value.bool true), Is (Value.bool true)] rfl ⟨.inr (is_stab _ _), .inr (is_stab _ _), .inr (is_stab _ _), .inr (is_stab _ _), .inr (is_stab _ _), .inl (by simp), .inr (is_stab _ _), .inr (is_stab _ _), .inr (is_stab _ _), .inr (is_stab _ _), .inr (is_stab _ _), .inl (by simp), .inr (is_stab _ _), .inr (is_stab _ _), trivial⟩ HN0.out ⟨?o0, ?o1, ?o2, ?o3, ?o4, ?o5, ?o6, ?o7, ?o8, ?o9, ?o10, ?o11, ?o12, ?o13, trivial⟩ ?_
  case o0 =>
    intro vals wq hRq hNq hpq
    simp only [List.getD_cons_zero, List.getD_cons_succ, canonP]
    simp only [Oper.gives]
    go_simp
    first | exact ⟨is_mk _ _, (Touch.refl [bm, R]) _⟩ | exact ⟨is_mk _ _, (Touch.refl [bm, R]) _, (fun _ _ _ _ h => h), (fun _ _ _ _ _ h => h)⟩
  case o1 =>
    intro vals wq hRq hNq hpq
    simp only [List.getD_cons_zero, List.getD_cons_succ, canonP]
    simp only [Oper.gives]
    go_simp
    first | exact ⟨is_mk _ _, (Touch.refl [bm, R]) _⟩ | exact ⟨is_mk _ _, (Touch.refl [bm, R]) _, (fun _ _ _ _ h => h), (fun _ _ _ _ _ h => h)⟩
  case o2 =>
    intro vals wq hRq hNq hpq
    simp only [factsP, List.getD_cons_zero, List.getD_cons_succ] at hpq
    have f1 := hpq.1
    replace hpq := hpq.2
    clear hpq
    replace f1 : vals 1 = _ := f1
    simp only [List.getD_cons_zero, List.getD_cons_succ, canonP, f1]
    clear f1
    have hcc : wq.cell? ⟨P, 1, none⟩ = some (.int .i64 b) := (hRq.cell (a := ⟨P, 1, none⟩) HPL.out HPS.out).trans HP1.out
    simp only [Oper.gives]
    go_simp
    first | exact ⟨is_mk _ _, Touch.refl _ _⟩ | exact ⟨is_mk _ _, Touch.refl _ _, (fun _ _ _ _ h => h), (fun _ _ _ _ _ h => h)⟩
  case o3 =>
    intro vals wq hRq hNq hpq
    simp only [List.getD_cons_zero, List.getD_cons_succ, canonP]
    simp only [Oper.gives]
    go_simp
    first | exact ⟨is_mk _ _, (Touch.refl [bm, R]) _⟩ | exact ⟨is_mk _ _, (Touch.refl [bm, R]) _, (fun _ _ _ _ h => h), (fun _ _ _ _ _ h => h)⟩
  case o4 =>
    intro vals wq hRq hNq hpq
    simp only [factsP, List.getD_cons_zero, List.getD_cons_succ] at hpq
    have f3 := hpq.1
    replace hpq := hpq.2
    clear hpq
    replace f3 : vals 3 = _ := f3
    simp only [List.getD_cons_zero, List.getD_cons_succ, canonP, f3]
    clear f3
    have hcc : wq.cell? ⟨P, 2, none⟩ = some (.int .u32 (s : Int)) := (hRq.cell (a := ⟨P, 2, none⟩) HPL.out HPS.out).trans HP2.out
    simp only [Oper.gives]
    go_simp
    first | exact ⟨is_mk _ _, Touch.refl _ _⟩ | exact ⟨is_mk _ _, Touch.refl _ _, (fun _ _ _ _ h => h), (fun _ _ _ _ _ h => h)⟩
  case o5 =>
    intro vals wq hRq hNq hpq
    simp only [factsP, List.getD_cons_zero, List.getD_cons_succ] at hpq
    have f0 := hpq.1
    replace hpq := hpq.2
    have f2 := hpq.1
    replace hpq := hpq.2
    have f4 := hpq.1
    replace hpq := hpq.2
    clear hpq
    replace f0 : vals 0 = _ := f0
    replace f2 : vals 2 = _ := f2
    replace f4 : vals 4 = _ := f4
    simp only [List.getD_cons_zero, List.getD_cons_succ, canonP, f0, f2, f4]
    clear f0 f2 f4
    have htt : Tab wq B bm k m := hNq (5, fun wx => Tab wx B bm k m) (List.Mem.head _) rfl
    rw [if_pos (by rfl)]
    refine gives_call_post (f := 20) (args := #[.pointer (some ⟨B, 0, none⟩), .int .i64 b, .int .u32 (s : Int)]) (by unfold execOp; go_simp) ((HC.out wq htt).mono ?_)
    intro e w' hh
    refine ⟨_, hh.1, ⟨rfl, hh.2.1⟩, hh.2.2.mono (fun i hi => .inl (by simp at hi; simp [hi])), ?_, ?_⟩
    · intro p hp hn _ h; simp only [List.mem_cons, List.not_mem_nil, or_false] at hp; rcases hp with rfl | rfl
      · exact absurd rfl hn
      · exact RTab.kept h hh.2.2 HRB.out HOB.out
    · intro q hq hne hnp; exact absurd hq (by intro hq; simp at hq; rcases hq with rfl | rfl <;> first | exact hne rfl | exact hnp (by simp))
  case o6 =>
    intro vals wq hRq hNq hpq
    simp only [List.getD_cons_zero, List.getD_cons_succ, canonP]
    simp only [Oper.gives]
    go_simp
    first | exact ⟨is_mk _ _, (Touch.refl [bm, R]) _⟩ | exact ⟨is_mk _ _, (Touch.refl [bm, R]) _, (fun _ _ _ _ h => h), (fun _ _ _ _ _ h => h)⟩
  case o7 =>
    intro vals wq hRq hNq hpq
    simp only [List.getD_cons_zero, List.getD_cons_succ, canonP]
    simp only [Oper.gives]
    go_simp
    first | exact ⟨is_mk _ _, (Touch.refl [bm, R]) _⟩ | exact ⟨is_mk _ _, (Touch.refl [bm, R]) _, (fun _ _ _ _ h => h), (fun _ _ _ _ _ h => h)⟩
  case o8 =>
    intro vals wq hRq hNq hpq
    simp only [factsP, List.getD_cons_zero, List.getD_cons_succ] at hpq
    have f7 := hpq.1
    replace hpq := hpq.2
    clear hpq
    replace f7 : vals 7 = _ := f7
    simp only [List.getD_cons_zero, List.getD_cons_succ, canonP, f7]
    clear f7
    have hcc : wq.cell? ⟨P, 1, none⟩ = some (.int .i64 b) := (hRq.cell (a := ⟨P, 1, none⟩) HPL.out HPS.out).trans HP1.out
    simp only [Oper.gives]
    go_simp
    first | exact ⟨is_mk _ _, Touch.refl _ _⟩ | exact ⟨is_mk _ _, Touch.refl _ _, (fun _ _ _ _ h => h), (fun _ _ _ _ _ h => h)⟩
  case o9 =>
    intro vals wq hRq hNq hpq
    simp only [List.getD_cons_zero, List.getD_cons_succ, canonP]
    simp only [Oper.gives]
    go_simp
    first | exact ⟨is_mk _ _, (Touch.refl [bm, R]) _⟩ | exact ⟨is_mk _ _, (Touch.refl [bm, R]) _, (fun _ _ _ _ h => h), (fun _ _ _ _ _ h => h)⟩
  case o10 =>
    intro vals wq hRq hNq hpq
    simp only [factsP, List.getD_cons_zero, List.getD_cons_succ] at hpq
    have f9 := hpq.1
    replace hpq := hpq.2
    clear hpq
    replace f9 : vals 9 = _ := f9
    simp only [List.getD_cons_zero, List.getD_cons_succ, canonP, f9]
    clear f9
    have hcc : wq.cell? ⟨P, 2, none⟩ = some (.int .u32 (s : Int)) := (hRq.cell (a := ⟨P, 2, none⟩) HPL.out HPS.out).trans HP2.out
    simp only [Oper.gives]
    go_simp
    first | exact ⟨is_mk _ _, Touch.refl _ _⟩ | exact ⟨is_mk _ _, Touch.refl _ _, (fun _ _ _ _ h => h), (fun _ _ _ _ _ h => h)⟩
  case o11 =>
    intro vals wq hRq hNq hpq
    simp only [factsP, List.getD_cons_zero, List.getD_cons_succ] at hpq
    have f5 := hpq.1
    replace hpq := hpq.2
    have f6 := hpq.1
    replace hpq := hpq.2
    have f8 := hpq.1
    replace hpq := hpq.2
    have f10 := hpq.1
    replace hpq := hpq.2
    clear hpq
    replace f6 : vals 6 = _ := f6
    replace f8 : vals 8 = _ := f8
    replace f10 : vals 10 = _ := f10
    simp only [List.getD_cons_zero, List.getD_cons_succ, canonP, f6, f8, f10]
    clear f6 f8 f10
    have htt : RTab wq R vl m := hNq (11, fun wx => RTab wx R vl m) (List.Mem.tail _ (List.Mem.head _)) rfl
    have hsz : W1.heap.size ≤ wq.heap.size := hRq.size
    rw [if_pos (by rfl)]
    refine gives_call_post (f := 28) (args := #[.pointer (some ⟨R, 0, none⟩), .int .i64 b, .int .u32 (s : Int)]) (by unfold execOp; go_simp) ((HD.out wq htt).mono ?_)
    intro e w' hh
    refine ⟨_, hh.1, ⟨rfl, hh.2.1.elim fun x hx => ⟨x, hx.1, fun g e => (hx.2 g e).imp id (Nat.le_trans hsz)⟩⟩, hh.2.2.mono (fun i hi => .inl (by simp at hi; simp [hi])), ?_, ?_⟩
    · intro p hp hn hnp h; simp only [List.mem_cons, List.not_mem_nil, or_false] at hp; rcases hp with rfl | rfl
      · exact absurd (by simp) hnp
      · exact absurd rfl hn
    · intro q hq hne hnp u hu; simp only [List.mem_cons, List.not_mem_nil, or_false] at hq; rcases hq with rfl | rfl
      · exact ⟨hu.1, hu.2.kept hh.2.2 HBR.out.1 HBR.out.2⟩
      · exact absurd rfl hne
  case o12 =>
    intro vals wq hRq hNq hpq
    simp only [factsP, List.getD_cons_zero, List.getD_cons_succ] at hpq
    have f5 := hpq.1
    replace hpq := hpq.2
    have f11 := hpq.1
    replace hpq := hpq.2
    clear hpq
    simp only [List.getD_cons_zero, List.getD_cons_succ, canonP]
    simp only [f5.1, f11.1]
    simp only [Oper.gives]
    go_simp
    first | exact ⟨is_mk _ _, Touch.refl _ _⟩ | exact ⟨is_mk _ _, Touch.refl _ _, (fun _ _ _ _ h => h), (fun _ _ _ _ _ h => h)⟩
  case o13 =>
    intro vals wq hRq hNq hpq
    simp only [factsP, List.getD_cons_zero, List.getD_cons_succ] at hpq
    have f0 := hpq.1
    replace hpq := hpq.2
    have f1 := hpq.1
    replace hpq := hpq.2
    have f2 := hpq.1
    replace hpq := hpq.2
    have f3 := hpq.1
    replace hpq := hpq.2
    have f4 := hpq.1
    replace hpq := hpq.2
    have f5 := hpq.1
    replace hpq := hpq.2
    have f6 := hpq.1
    replace hpq := hpq.2
    have f7 := hpq.1
    replace hpq := hpq.2
    have f8 := hpq.1
    replace hpq := hpq.2
    have f9 := hpq.1
    replace hpq := hpq.2
    have f10 := hpq.1
    replace hpq := hpq.2
    have f11 := hpq.1
    replace hpq := hpq.2
    have f12 := hpq.1
    replace hpq := hpq.2
    clear hpq
    replace f0 : vals 0 = _ := f0
    replace f1 : vals 1 = _ := f1
    replace f2 : vals 2 = _ := f2
    replace f3 : vals 3 = _ := f3
    replace f4 : vals 4 = _ := f4
    replace f6 : vals 6 = _ := f6
    replace f7 : vals 7 = _ := f7
    replace f8 : vals 8 = _ := f8
    replace f9 : vals 9 = _ := f9
    replace f10 : vals 10 = _ := f10
    replace f12 : vals 12 = _ := f12
    simp only [List.getD_cons_zero, List.getD_cons_succ, canonP, f0, f1, f2, f3, f4, f6, f7, f8, f9, f10, f12]
    clear f0 f1 f2 f3 f4 f6 f7 f8 f9 f10 f12
    simp only [Oper.gives]
    go_simp
    first | exact ⟨is_mk _ _, (Touch.refl [bm, R]) _⟩ | exact ⟨is_mk _ _, (Touch.refl [bm, R]) _, (fun _ _ _ _ h => h), (fun _ _ _ _ _ h => h)⟩
  intro vals wz hRwz hfwz
  simp only [AllFacts] at hfwz
  have g0 := hfwz.1
  replace hfwz := hfwz.2
  have g1 := hfwz.1
  replace hfwz := hfwz.2
  have g2 := hfwz.1
  replace hfwz := hfwz.2
  have g3 := hfwz.1
  replace hfwz := hfwz.2
  have g4 := hfwz.1
  replace hfwz := hfwz.2
  have g5 := hfwz.1
  replace hfwz := hfwz.2
  have g6 := hfwz.1
  replace hfwz := hfwz.2
  have g7 := hfwz.1
  replace hfwz := hfwz.2
  have g8 := hfwz.1
  replace hfwz := hfwz.2
  have g9 := hfwz.1
  replace hfwz := hfwz.2
  have g10 := hfwz.1
  replace hfwz := hfwz.2
  have g11 := hfwz.1
  replace hfwz := hfwz.2
  have g12 := hfwz.1
  replace hfwz := hfwz.2
  have g13 := hfwz.1
  replace hfwz := hfwz.2
  clear hfwz
  replace g0 : vals 0 = _ := g0
  replace g1 : vals 1 = _ := g1
  replace g2 : vals 2 = _ := g2
  replace g3 : vals 3 = _ := g3
  replace g4 : vals 4 = _ := g4
  replace g6 : vals 6 = _ := g6
  replace g7 : vals 7 = _ := g7
  replace g8 : vals 8 = _ := g8
  replace g9 : vals 9 = _ := g9
  replace g10 : vals 10 = _ := g10
  replace g12 : vals 12 = _ := g12
  replace g13 : vals 13 = _ := g13
  simp only [canonP, Act.put, List.setIfInBounds_toArray, List.set_cons_succ, List.set_cons_zero, g0, g1, g2, g3, g4, g6, g7, g8, g9, g10, g12, g13]
  clear g0 g1 g2 g3 g4 g6 g7 g8 g9 g10 g12 g13
  rw [g5.1, g11.1]
  exact HK.out _ _ _ _ _ _ _ _ _ _ _ _ _ _ ((Touch.drew [bm, R] W1).trans hRwz (fun i hi => .inl hi)) g5.2 g11.2
#print axioms does8_reg

end Go.Proofs.Ytbpejjgjjjmlkaa
