/- quernref19.Over: region 6. -/
import Derived.Test.YtlhhbkpocpnebaaP23
set_option linter.unusedVariables false
set_option linter.unusedSimpArgs false
namespace Go.Proofs.Ytlhhbkpocpnebaa
open Go.RowKit Go.Maps

noncomputable def rover_reg6Code : Code := regById 6 (codesOf (Try.f19.body.getD .skip))
set_option maxRecDepth 100000 in
set_option maxHeartbeats 4000000 in
theorem rover_reg6 (k m gc kc gd nd kd b : Nat) (c : Cp) (W1 : World) (hk : k < m) (hmb : m ≤ 1000000) (hb : b < nd) (hnb : nd ≤ 1000000) (HB : Hid (gc < W1.heap.size ∧ W1.cell? ⟨gc, k * 257, none⟩ = some (.int .i64 (b : Int)))) (HR : Hid (gc < W1.heap.size ∧ W1.rangeAt gc (k * 257 + 1) (bc c.2))) (HC2 : Hid (c.2.length = 256)) (HTH : Hid (∀ w', Touch [] W1 w' → w'.there gd (b * 256) (bc c.2).toArray.size))
    (s0 s2 s3 s4 s7 s8 s9 s10 s11 s12 s13 s14 s15 s16 s17 s18 s19 s20 s21 s22 s23 s24 s25 s26 s27 s28 s29 s30 s31 s32 s33 s34 s35 s36 s37 s38 s39 s40 s41 s42 s43 s44 : Value) (Q : Exit → Act → World → Prop) (HK : Hid (∀ u32 u33 u34 u35 u36 u37 u38 u39 u40 u41 u42 u43 wz, Touch [] W1 wz → Q .normal ⟨(s0 :: .slice (some ⟨gc, 0, none⟩) m kc :: s2 :: s3 :: s4 :: .slice (some ⟨gd, 0, none⟩) nd kd :: .int .i64 (k : Int) :: s7 :: s8 :: s9 :: s10 :: s11 :: s12 :: s13 :: s14 :: s15 :: s16 :: s17 :: s18 :: s19 :: s20 :: s21 :: s22 :: s23 :: s24 :: s25 :: s26 :: s27 :: s28 :: s29 :: s30 :: s31 :: u32 :: u33 :: u34 :: u35 :: u36 :: u37 :: u38 :: u39 :: u40 :: u41 :: u42 :: u43 :: s44 :: []).toArray, []⟩ (wz.setCells gd (b * 256) (bc c.2)))) : rover_reg6Code.wp Try.prog Q ⟨(s0 :: .slice (some ⟨gc, 0, none⟩) m kc :: s2 :: s3 :: s4 :: .slice (some ⟨gd, 0, none⟩) nd kd :: .int .i64 (k : Int) :: s7 :: s8 :: s9 :: s10 :: s11 :: s12 :: s13 :: s14 :: s15 :: s16 :: s17 :: s18 :: s19 :: s20 :: s21 :: s22 :: s23 :: s24 :: s25 :: s26 :: s27 :: s28 :: s29 :: s30 :: s31 :: s32 :: s33 :: s34 :: s35 :: s36 :: s37 :: s38 :: s39 :: s40 :: s41 :: s42 :: s43 :: s44 :: []).toArray, []⟩ W1 := by
  have b0 : (0 : Int) ≤ (k : Int) := by omega
  have b1 : (k : Int) < (m : Int) := by omega
  have b2 : (0 : Int) ≤ (b : Int) := by omega
  have b3 : (b : Int) < (nd : Int) := by omega
  conv => arg 2; whnf
  refine wp_region_facts_tail 11 (by kernel_rfl) (by kernel_rfl) [[], [], [], [(1, some 33), (2, some 34)], [(3, some 35)], [(4, some 36)], [], [], [(6, some 38), (7, some 39)], [(8, some 40)], [(9, some 41)]] [(0, some 32), (1, some 33), (2, some 34), (3, some 35), (4, some 36), (5, some 37), (6, some 38), (7, some 39), (8, some 40), (9, some 41), (10, some 42)] (by kernel_rfl) (by kernel_rfl) (by kernel_rfl) (Touch []) (Touch.refl []) (fun _ _ _ h h' => h.trans h' (fun i hi => .inl hi)) [Is (Value.slice (some ⟨gd, 0, none⟩) nd kd), Is (Value.slice (some ⟨gc, 0, none⟩) m kc), Is (Value.int .i64 (k : Int)), Is (Value.pointer (some ⟨gc, k * 257, none⟩)), Is (Value.pointer (some ⟨gc, k * 257, none⟩)), Is (Value.int .i64 (b : Int)), Is (Value.slice (some ⟨gc, 0, none⟩) m kc), Is (Value.int .i64 (k : Int)), Is (Value.pointer (some ⟨gc, k * 257, none⟩)), Is (Value.pointer (some ⟨gc, k * 257 + 1, none⟩)), Is (Value.agg (bc c.2).toArray)] rfl ⟨is_stab _ _, is_stab _ _, is_stab _ _, is_stab _ _, is_stab _ _, is_stab _ _, is_stab _ _, is_stab _ _, is_stab _ _, is_stab _ _, is_stab _ _, trivial⟩ ⟨?o0, ?o1, ?o2, ?o3, ?o4, ?o5, ?o6, ?o7, ?o8, ?o9, ?o10, trivial⟩ ?_
  case o0 =>
    intro vals wq hRq hpq
    simp only [List.getD_cons_zero, List.getD_cons_succ, canonP]
    simp only [Oper.gives]
    go_simp
    exact ⟨is_mk _ _, (Touch.refl []) _⟩
  case o1 =>
    intro vals wq hRq hpq
    simp only [List.getD_cons_zero, List.getD_cons_succ, canonP]
    simp only [Oper.gives]
    go_simp
    exact ⟨is_mk _ _, (Touch.refl []) _⟩
  case o2 =>
    intro vals wq hRq hpq
    simp only [List.getD_cons_zero, List.getD_cons_succ, canonP]
    simp only [Oper.gives]
    go_simp
    exact ⟨is_mk _ _, (Touch.refl []) _⟩
  case o3 =>
    intro vals wq hRq hpq
    simp only [factsP, List.getD_cons_zero, List.getD_cons_succ] at hpq
    have f1 := hpq.1
    replace hpq := hpq.2
    have f2 := hpq.1
    replace hpq := hpq.2
    clear hpq
    replace f1 : vals 1 = _ := f1
    replace f2 : vals 2 = _ := f2
    simp only [List.getD_cons_zero, List.getD_cons_succ, canonP, f1, f2]
    clear f1 f2
    simp only [Oper.gives]
    go_simp
    exact ⟨is_mk _ _, (Touch.refl []) _⟩
  case o4 =>
    intro vals wq hRq hpq
    simp only [factsP, List.getD_cons_zero, List.getD_cons_succ] at hpq
    have f3 := hpq.1
    replace hpq := hpq.2
    clear hpq
    replace f3 : vals 3 = _ := f3
    simp only [List.getD_cons_zero, List.getD_cons_succ, canonP, f3]
    clear f3
    simp only [Oper.gives]
    go_simp
    exact ⟨is_mk _ _, (Touch.refl []) _⟩
  case o5 =>
    intro vals wq hRq hpq
    simp only [factsP, List.getD_cons_zero, List.getD_cons_succ] at hpq
    have f4 := hpq.1
    replace hpq := hpq.2
    clear hpq
    replace f4 : vals 4 = _ := f4
    simp only [List.getD_cons_zero, List.getD_cons_succ, canonP, f4]
    clear f4
    have hcc : wq.cell? ⟨gc, k * 257, none⟩ = some (.int .i64 (b : Int)) := (Touch.cell ((Touch.drew [] W1).trans hRq (by simp)) (a := ⟨gc, k * 257, none⟩) HB.out.1 (by simp)).trans HB.out.2
    simp only [Oper.gives]
    go_simp
    exact ⟨is_mk _ _, Touch.refl _ _⟩
  case o6 =>
    intro vals wq hRq hpq
    simp only [List.getD_cons_zero, List.getD_cons_succ, canonP]
    simp only [Oper.gives]
    go_simp
    exact ⟨is_mk _ _, (Touch.refl []) _⟩
  case o7 =>
    intro vals wq hRq hpq
    simp only [List.getD_cons_zero, List.getD_cons_succ, canonP]
    simp only [Oper.gives]
    go_simp
    exact ⟨is_mk _ _, (Touch.refl []) _⟩
  case o8 =>
    intro vals wq hRq hpq
    simp only [factsP, List.getD_cons_zero, List.getD_cons_succ] at hpq
    have f6 := hpq.1
    replace hpq := hpq.2
    have f7 := hpq.1
    replace hpq := hpq.2
    clear hpq
    replace f6 : vals 6 = _ := f6
    replace f7 : vals 7 = _ := f7
    simp only [List.getD_cons_zero, List.getD_cons_succ, canonP, f6, f7]
    clear f6 f7
    simp only [Oper.gives]
    go_simp
    exact ⟨is_mk _ _, (Touch.refl []) _⟩
  case o9 =>
    intro vals wq hRq hpq
    simp only [factsP, List.getD_cons_zero, List.getD_cons_succ] at hpq
    have f8 := hpq.1
    replace hpq := hpq.2
    clear hpq
    replace f8 : vals 8 = _ := f8
    simp only [List.getD_cons_zero, List.getD_cons_succ, canonP, f8]
    clear f8
    simp only [Oper.gives]
    go_simp
    exact ⟨is_mk _ _, (Touch.refl []) _⟩
  case o10 =>
    intro vals wq hRq hpq
    simp only [factsP, List.getD_cons_zero, List.getD_cons_succ] at hpq
    have f9 := hpq.1
    replace hpq := hpq.2
    clear hpq
    replace f9 : vals 9 = _ := f9
    simp only [List.getD_cons_zero, List.getD_cons_succ, canonP, f9]
    clear f9
    have hr : wq.rangeAt gc (k * 257 + 1) (bc c.2) := fun j u hj => (Touch.cell ((Touch.drew [] W1).trans hRq (by simp)) (a := ⟨gc, k * 257 + 1 + j, none⟩) HR.out.1 (by simp)).trans (HR.out.2 j u hj)
    rw [if_pos (by rfl)]
    exact gives_load_mid 29 _ rfl gc (k * 257 + 1) rfl (bc c.2) _ hr Try.underlying29 rfl (bsizeL HC2.out) ⟨is_mk _ _, Touch.refl _ _⟩
  intro vals wz hRwz hfwz
  simp only [AllFacts] at hfwz
  have g0 := hfwz.1
  replace hfwz := hfwz.2
  have g1 := hfwz.1
  replace hfwz := hfwz.2
  have g2 := hfwz.1
  replace hfwz := hfwz.2
  have g3 := hfwz.1
  replace hfwz := hfwz.2
  have g4 := hfwz.1
  replace hfwz := hfwz.2
  have g5 := hfwz.1
  replace hfwz := hfwz.2
  have g6 := hfwz.1
  replace hfwz := hfwz.2
  have g7 := hfwz.1
  replace hfwz := hfwz.2
  have g8 := hfwz.1
  replace hfwz := hfwz.2
  have g9 := hfwz.1
  replace hfwz := hfwz.2
  have g10 := hfwz.1
  replace hfwz := hfwz.2
  clear hfwz
  replace g0 : vals 0 = _ := g0
  replace g1 : vals 1 = _ := g1
  replace g2 : vals 2 = _ := g2
  replace g3 : vals 3 = _ := g3
  replace g4 : vals 4 = _ := g4
  replace g5 : vals 5 = _ := g5
  replace g6 : vals 6 = _ := g6
  replace g7 : vals 7 = _ := g7
  replace g8 : vals 8 = _ := g8
  replace g9 : vals 9 = _ := g9
  replace g10 : vals 10 = _ := g10
  simp only [List.drop_succ_cons, List.drop_zero]
  simp only [canonP, Act.put, List.setIfInBounds_toArray, List.set_cons_succ, List.set_cons_zero, g0, g1, g2, g3, g4, g5, g6, g7, g8, g9, g10]
  clear g0 g1 g2 g3 g4 g5 g6 g7 g8 g9 g10
  have HT2 := Lib.hid (HTH.out wz ((Touch.drew [] W1).trans hRwz (by simp)))
  go_wp2_with (refine wpList_store_mid rfl 29 _ _ rfl gd (b * 256) (bc c.2).toArray rfl rfl HT2.out (bsize HC2.out) (all_oneCell_toArray (bc_one _)) ?_)
  exact HK.out _ _ _ _ _ _ _ _ _ _ _ _ _ ((Touch.drew [] W1).trans hRwz (by simp))
#print axioms rover_reg6

end Go.Proofs.Ytlhhbkpocpnebaa
