/- quernref19.May: its regions. -/
import Derived.Test.YtlhhbkpocpnebaaP32
import Derived.Test.YtlhhbkpocpnebaaP10
import Derived.Test.YtlhhbkpocpnebaaP24d
set_option linter.unusedVariables false
set_option linter.unusedSimpArgs false
namespace Go.Proofs.Ytlhhbkpocpnebaa
open Go.RowKit Go.Maps

noncomputable def may_reg13Code : Code := regById 13 (codesOf (Try.f27.body.getD .skip))
set_option maxRecDepth 100000 in
set_option maxHeartbeats 4000000 in
theorem may_reg13 (i n k m gt ct gc cc PG : Nat) (gr sz ni jr b : Int) (W1 : World) (hi : i < n) (hnb : n ≤ 1000000) (hk : k < m) (hmb : m ≤ 1000000) (HP : Hid (W1.heap[PG]? = some (.cells #[.int .i64 gr, .int .i64 sz, .int .i64 ni, .int .i64 jr] 43))) (HS : Hid (gt < W1.heap.size ∧ W1.cell? ⟨gt, i * 3 + 1, none⟩ = some (.slice (some ⟨gc, 0, none⟩) m cc))) (HB : Hid (gc < W1.heap.size ∧ W1.cell? ⟨gc, k * 257, none⟩ = some (.int .i64 b))) (OB : Bool) (HC : Hid (∀ w', Grow W1 w' → Calls Try.prog 51 #[.agg #[.int .i64 gr, .int .i64 sz, .int .i64 ni, .int .i64 jr], .int .i64 b] w' fun e w'' => e = .returned (.bool OB) ∧ Grow w' w''))
    (s0 s1 s3 s4 s6 s7 s8 s11 s12 s13 s14 s15 s16 s17 s18 s19 s20 s21 s22 s23 s24 s25 s26 s27 s28 s29 s30 s31 s32 s33 s34 s35 s36 s37 s38 s39 s40 s41 s42 s43 s44 s45 s46 s47 s48 s49 s50 s51 s52 s53 s54 s55 s56 s57 s58 s59 s60 s61 s62 s63 s64 s65 s66 s67 s68 s69 s70 s71 s72 s73 s74 : Value) (Q : Exit → Act → World → Prop) (HK : Hid (∀ u42 u43 u44 u45 u46 u47 u48 u49 u50 u51 u52 wz, Touch [] W1 wz → Q .normal ⟨(s0 :: s1 :: .slice (some ⟨gt, 0, none⟩) n ct :: s3 :: s4 :: .pointer (some ⟨PG, 0, none⟩) :: s6 :: s7 :: s8 :: .int .i64 (i : Int) :: .int .i64 (k : Int) :: s11 :: s12 :: s13 :: s14 :: s15 :: s16 :: s17 :: s18 :: s19 :: s20 :: s21 :: s22 :: s23 :: s24 :: s25 :: s26 :: s27 :: s28 :: s29 :: s30 :: s31 :: s32 :: s33 :: s34 :: s35 :: s36 :: s37 :: s38 :: s39 :: s40 :: s41 :: u42 :: u43 :: u44 :: u45 :: u46 :: u47 :: u48 :: u49 :: u50 :: u51 :: u52 :: .bool (!OB) :: s54 :: s55 :: s56 :: s57 :: s58 :: s59 :: s60 :: s61 :: s62 :: s63 :: s64 :: s65 :: s66 :: s67 :: s68 :: s69 :: s70 :: s71 :: s72 :: s73 :: s74 :: []).toArray, []⟩ (wz))) : may_reg13Code.wp Try.prog Q ⟨(s0 :: s1 :: .slice (some ⟨gt, 0, none⟩) n ct :: s3 :: s4 :: .pointer (some ⟨PG, 0, none⟩) :: s6 :: s7 :: s8 :: .int .i64 (i : Int) :: .int .i64 (k : Int) :: s11 :: s12 :: s13 :: s14 :: s15 :: s16 :: s17 :: s18 :: s19 :: s20 :: s21 :: s22 :: s23 :: s24 :: s25 :: s26 :: s27 :: s28 :: s29 :: s30 :: s31 :: s32 :: s33 :: s34 :: s35 :: s36 :: s37 :: s38 :: s39 :: s40 :: s41 :: s42 :: s43 :: s44 :: s45 :: s46 :: s47 :: s48 :: s49 :: s50 :: s51 :: s52 :: s53 :: s54 :: s55 :: s56 :: s57 :: s58 :: s59 :: s60 :: s61 :: s62 :: s63 :: s64 :: s65 :: s66 :: s67 :: s68 :: s69 :: s70 :: s71 :: s72 :: s73 :: s74 :: []).toArray, []⟩ W1 := by
  have b0 : (0 : Int) ≤ (i : Int) := by omega
  have b1 : (i : Int) < (n : Int) := by omega
  have b2 : (0 : Int) ≤ (k : Int) := by omega
  have b3 : (k : Int) < (m : Int) := by omega
  conv => arg 2; whnf
  refine wp_region_facts (by kernel_rfl) [[], [], [], [(1, some 43), (2, some 44)], [(3, some 45)], [(4, some 46)], [], [(5, some 47), (6, some 48)], [(7, some 49)], [(8, some 50)], [(0, some 42), (9, some 51)], [(10, some 52)]] [(0, some 42), (1, some 43), (2, some 44), (3, some 45), (4, some 46), (5, some 47), (6, some 48), (7, some 49), (8, some 50), (9, some 51), (10, some 52), (11, some 53)] (by kernel_rfl) (by kernel_rfl) (by kernel_rfl) (Touch []) (Touch.refl []) (fun _ _ _ h h' => h.trans h' (fun i hi => .inl hi)) [Is (Value.agg #[.int .i64 gr, .int .i64 sz, .int .i64 ni, .int .i64 jr]), Is (Value.slice (some ⟨gt, 0, none⟩) n ct), Is (Value.int .i64 (i : Int)), Is (Value.pointer (some ⟨gt, i * 3, none⟩)), Is (Value.pointer (some ⟨gt, i * 3 + 1, none⟩)), Is (Value.slice (some ⟨gc, 0, none⟩) m cc), Is (Value.int .i64 (k : Int)), Is (Value.pointer (some ⟨gc, k * 257, none⟩)), Is (Value.pointer (some ⟨gc, k * 257, none⟩)), Is (Value.int .i64 b), Is (Value.bool OB), Is (Value.bool (!OB))] rfl ⟨is_stab _ _, is_stab _ _, is_stab _ _, is_stab _ _, is_stab _ _, is_stab _ _, is_stab _ _, is_stab _ _, is_stab _ _, is_stab _ _, is_stab _ _, is_stab _ _, trivial⟩ ⟨?o0, ?o1, ?o2, ?o3, ?o4, ?o5, ?o6, ?o7, ?o8, ?o9, ?o10, ?o11, trivial⟩ ?_
  case o0 =>
    intro vals wq hRq hpq
    simp only [List.getD_cons_zero, List.getD_cons_succ, canonP]
    have hbx : wq.heap[PG]? = some (.cells #[.int .i64 gr, .int .i64 sz, .int .i64 ni, .int .i64 jr] 43) := (hRq.block PG (by simpa using (Array.getElem?_eq_some_iff.1 HP.out).1) (by simp)).trans HP.out
    rw [if_pos (by rfl)]
    exact gives_load_row 43 _ rfl PG rfl 43 #[.int .i64 gr, .int .i64 sz, .int .i64 ni, .int .i64 jr] (0, 0) _ hbx Try.underlying43 rfl sizeGeo ⟨is_mk _ _, Touch.refl _ _⟩
  case o1 =>
    intro vals wq hRq hpq
    simp only [List.getD_cons_zero, List.getD_cons_succ, canonP]
    simp only [Oper.gives]
    go_simp
    exact ⟨is_mk _ _, (Touch.refl []) _⟩
  case o2 =>
    intro vals wq hRq hpq
    simp only [List.getD_cons_zero, List.getD_cons_succ, canonP]
    simp only [Oper.gives]
    go_simp
    exact ⟨is_mk _ _, (Touch.refl []) _⟩
  case o3 =>
    intro vals wq hRq hpq
    simp only [factsP, List.getD_cons_zero, List.getD_cons_succ] at hpq
    have f1 := hpq.1
    replace hpq := hpq.2
    have f2 := hpq.1
    replace hpq := hpq.2
    clear hpq
    replace f1 : vals 1 = _ := f1
    replace f2 : vals 2 = _ := f2
    simp only [List.getD_cons_zero, List.getD_cons_succ, canonP, f1, f2]
    clear f1 f2
    simp only [Oper.gives]
    go_simp
    exact ⟨is_mk _ _, (Touch.refl []) _⟩
  case o4 =>
    intro vals wq hRq hpq
    simp only [factsP, List.getD_cons_zero, List.getD_cons_succ] at hpq
    have f3 := hpq.1
    replace hpq := hpq.2
    clear hpq
    replace f3 : vals 3 = _ := f3
    simp only [List.getD_cons_zero, List.getD_cons_succ, canonP, f3]
    clear f3
    simp only [Oper.gives]
    go_simp
    exact ⟨is_mk _ _, (Touch.refl []) _⟩
  case o5 =>
    intro vals wq hRq hpq
    simp only [factsP, List.getD_cons_zero, List.getD_cons_succ] at hpq
    have f4 := hpq.1
    replace hpq := hpq.2
    clear hpq
    replace f4 : vals 4 = _ := f4
    simp only [List.getD_cons_zero, List.getD_cons_succ, canonP, f4]
    clear f4
    have hcc : wq.cell? ⟨gt, i * 3 + 1, none⟩ = some (.slice (some ⟨gc, 0, none⟩) m cc) := (Touch.cell ((Touch.drew [] W1).trans hRq (by simp)) (a := ⟨gt, i * 3 + 1, none⟩) HS.out.1 (by simp)).trans HS.out.2
    simp only [Oper.gives]
    go_simp
    exact ⟨is_mk _ _, Touch.refl _ _⟩
  case o6 =>
    intro vals wq hRq hpq
    simp only [List.getD_cons_zero, List.getD_cons_succ, canonP]
    simp only [Oper.gives]
    go_simp
    exact ⟨is_mk _ _, (Touch.refl []) _⟩
  case o7 =>
    intro vals wq hRq hpq
    simp only [factsP, List.getD_cons_zero, List.getD_cons_succ] at hpq
    have f5 := hpq.1
    replace hpq := hpq.2
    have f6 := hpq.1
    replace hpq := hpq.2
    clear hpq
    replace f5 : vals 5 = _ := f5
    replace f6 : vals 6 = _ := f6
    simp only [List.getD_cons_zero, List.getD_cons_succ, canonP, f5, f6]
    clear f5 f6
    simp only [Oper.gives]
    go_simp
    exact ⟨is_mk _ _, (Touch.refl []) _⟩
  case o8 =>
    intro vals wq hRq hpq
    simp only [factsP, List.getD_cons_zero, List.getD_cons_succ] at hpq
    have f7 := hpq.1
    replace hpq := hpq.2
    clear hpq
    replace f7 : vals 7 = _ := f7
    simp only [List.getD_cons_zero, List.getD_cons_succ, canonP, f7]
    clear f7
    simp only [Oper.gives]
    go_simp
    exact ⟨is_mk _ _, (Touch.refl []) _⟩
  case o9 =>
    intro vals wq hRq hpq
    simp only [factsP, List.getD_cons_zero, List.getD_cons_succ] at hpq
    have f8 := hpq.1
    replace hpq := hpq.2
    clear hpq
    replace f8 : vals 8 = _ := f8
    simp only [List.getD_cons_zero, List.getD_cons_succ, canonP, f8]
    clear f8
    have hcc : wq.cell? ⟨gc, k * 257, none⟩ = some (.int .i64 b) := (Touch.cell ((Touch.drew [] W1).trans hRq (by simp)) (a := ⟨gc, k * 257, none⟩) HB.out.1 (by simp)).trans HB.out.2
    simp only [Oper.gives]
    go_simp
    exact ⟨is_mk _ _, Touch.refl _ _⟩
  case o10 =>
    intro vals wq hRq hpq
    simp only [factsP, List.getD_cons_zero, List.getD_cons_succ] at hpq
    have f0 := hpq.1
    replace hpq := hpq.2
    have f9 := hpq.1
    replace hpq := hpq.2
    clear hpq
    replace f0 : vals 0 = _ := f0
    replace f9 : vals 9 = _ := f9
    simp only [List.getD_cons_zero, List.getD_cons_succ, canonP, f0, f9]
    clear f0 f9
    simp only [Oper.gives]
    go_simp
    exact (HC.out wq (((Touch.drew [] W1).trans hRq (by simp)).below (Nat.le_refl _) (by simp))).mono fun e w' ⟨he, hg⟩ => ⟨_, he, is_mk _ _, Touch.of_below hg⟩
  case o11 =>
    intro vals wq hRq hpq
    simp only [factsP, List.getD_cons_zero, List.getD_cons_succ] at hpq
    have f10 := hpq.1
    replace hpq := hpq.2
    clear hpq
    replace f10 : vals 10 = _ := f10
    simp only [List.getD_cons_zero, List.getD_cons_succ, canonP, f10]
    clear f10
    simp only [Oper.gives]
    go_simp
    exact ⟨is_mk _ _, (Touch.refl []) _⟩
  intro vals wz hRwz hfwz
  simp only [AllFacts] at hfwz
  have g0 := hfwz.1
  replace hfwz := hfwz.2
  have g1 := hfwz.1
  replace hfwz := hfwz.2
  have g2 := hfwz.1
  replace hfwz := hfwz.2
  have g3 := hfwz.1
  replace hfwz := hfwz.2
  have g4 := hfwz.1
  replace hfwz := hfwz.2
  have g5 := hfwz.1
  replace hfwz := hfwz.2
  have g6 := hfwz.1
  replace hfwz := hfwz.2
  have g7 := hfwz.1
  replace hfwz := hfwz.2
  have g8 := hfwz.1
  replace hfwz := hfwz.2
  have g9 := hfwz.1
  replace hfwz := hfwz.2
  have g10 := hfwz.1
  replace hfwz := hfwz.2
  have g11 := hfwz.1
  replace hfwz := hfwz.2
  clear hfwz
  replace g0 : vals 0 = _ := g0
  replace g1 : vals 1 = _ := g1
  replace g2 : vals 2 = _ := g2
  replace g3 : vals 3 = _ := g3
  replace g4 : vals 4 = _ := g4
  replace g5 : vals 5 = _ := g5
  replace g6 : vals 6 = _ := g6
  replace g7 : vals 7 = _ := g7
  replace g8 : vals 8 = _ := g8
  replace g9 : vals 9 = _ := g9
  replace g10 : vals 10 = _ := g10
  replace g11 : vals 11 = _ := g11
  simp only [canonP, Act.put, List.setIfInBounds_toArray, List.set_cons_succ, List.set_cons_zero, g0, g1, g2, g3, g4, g5, g6, g7, g8, g9, g10, g11]
  clear g0 g1 g2 g3 g4 g5 g6 g7 g8 g9 g10 g11
  exact HK.out _ _ _ _ _ _ _ _ _ _ _ _ ((Touch.drew [] W1).trans hRwz (by simp))
#print axioms may_reg13

noncomputable def may_reg18Code : Code := regById 18 (codesOf (Try.f27.body.getD .skip))
set_option maxRecDepth 100000 in
set_option maxHeartbeats 4000000 in
theorem may_reg18 (i n k m gt ct gc cc PG : Nat) (gr sz ni jr b : Int) (W1 : World) (hi : i < n) (hnb : n ≤ 1000000) (hk : k < m) (hmb : m ≤ 1000000) (HP : Hid (W1.heap[PG]? = some (.cells #[.int .i64 gr, .int .i64 sz, .int .i64 ni, .int .i64 jr] 43))) (HS : Hid (gt < W1.heap.size ∧ W1.cell? ⟨gt, i * 3 + 2, none⟩ = some (.slice (some ⟨gc, 0, none⟩) m cc))) (HB : Hid (gc < W1.heap.size ∧ W1.cell? ⟨gc, k, none⟩ = some (.int .i64 b))) (OB : Bool) (HC : Hid (∀ w', Grow W1 w' → Calls Try.prog 51 #[.agg #[.int .i64 gr, .int .i64 sz, .int .i64 ni, .int .i64 jr], .int .i64 b] w' fun e w'' => e = .returned (.bool OB) ∧ Grow w' w''))
    (s0 s1 s3 s4 s6 s7 s8 s10 s12 s13 s14 s15 s16 s17 s18 s19 s20 s21 s22 s23 s24 s25 s26 s27 s28 s29 s30 s31 s32 s33 s34 s35 s36 s37 s38 s39 s40 s41 s42 s43 s44 s45 s46 s47 s48 s49 s50 s51 s52 s53 s54 s55 s56 s57 s58 s59 s60 s61 s62 s63 s64 s65 s66 s67 s68 s69 s70 s71 s72 s73 s74 : Value) (Q : Exit → Act → World → Prop) (HK : Hid (∀ u64 u65 u66 u67 u68 u69 u70 u71 u72 u73 wz, Touch [] W1 wz → Q .normal ⟨(s0 :: s1 :: .slice (some ⟨gt, 0, none⟩) n ct :: s3 :: s4 :: .pointer (some ⟨PG, 0, none⟩) :: s6 :: s7 :: s8 :: .int .i64 (i : Int) :: s10 :: .int .i64 (k : Int) :: s12 :: s13 :: s14 :: s15 :: s16 :: s17 :: s18 :: s19 :: s20 :: s21 :: s22 :: s23 :: s24 :: s25 :: s26 :: s27 :: s28 :: s29 :: s30 :: s31 :: s32 :: s33 :: s34 :: s35 :: s36 :: s37 :: s38 :: s39 :: s40 :: s41 :: s42 :: s43 :: s44 :: s45 :: s46 :: s47 :: s48 :: s49 :: s50 :: s51 :: s52 :: s53 :: s54 :: s55 :: s56 :: s57 :: s58 :: s59 :: s60 :: s61 :: s62 :: s63 :: u64 :: u65 :: u66 :: u67 :: u68 :: u69 :: u70 :: u71 :: u72 :: u73 :: .bool (!OB) :: []).toArray, []⟩ (wz))) : may_reg18Code.wp Try.prog Q ⟨(s0 :: s1 :: .slice (some ⟨gt, 0, none⟩) n ct :: s3 :: s4 :: .pointer (some ⟨PG, 0, none⟩) :: s6 :: s7 :: s8 :: .int .i64 (i : Int) :: s10 :: .int .i64 (k : Int) :: s12 :: s13 :: s14 :: s15 :: s16 :: s17 :: s18 :: s19 :: s20 :: s21 :: s22 :: s23 :: s24 :: s25 :: s26 :: s27 :: s28 :: s29 :: s30 :: s31 :: s32 :: s33 :: s34 :: s35 :: s36 :: s37 :: s38 :: s39 :: s40 :: s41 :: s42 :: s43 :: s44 :: s45 :: s46 :: s47 :: s48 :: s49 :: s50 :: s51 :: s52 :: s53 :: s54 :: s55 :: s56 :: s57 :: s58 :: s59 :: s60 :: s61 :: s62 :: s63 :: s64 :: s65 :: s66 :: s67 :: s68 :: s69 :: s70 :: s71 :: s72 :: s73 :: s74 :: []).toArray, []⟩ W1 := by
  have b0 : (0 : Int) ≤ (i : Int) := by omega
  have b1 : (i : Int) < (n : Int) := by omega
  have b2 : (0 : Int) ≤ (k : Int) := by omega
  have b3 : (k : Int) < (m : Int) := by omega
  conv => arg 2; whnf
  refine wp_region_facts (by kernel_rfl) [[], [], [], [(1, some 65), (2, some 66)], [(3, some 67)], [(4, some 68)], [], [(5, some 69), (6, some 70)], [(7, some 71)], [(0, some 64), (8, some 72)], [(9, some 73)]] [(0, some 64), (1, some 65), (2, some 66), (3, some 67), (4, some 68), (5, some 69), (6, some 70), (7, some 71), (8, some 72), (9, some 73), (10, some 74)] (by kernel_rfl) (by kernel_rfl) (by kernel_rfl) (Touch []) (Touch.refl []) (fun _ _ _ h h' => h.trans h' (fun i hi => .inl hi)) [Is (Value.agg #[.int .i64 gr, .int .i64 sz, .int .i64 ni, .int .i64 jr]), Is (Value.slice (some ⟨gt, 0, none⟩) n ct), Is (Value.int .i64 (i : Int)), Is (Value.pointer (some ⟨gt, i * 3, none⟩)), Is (Value.pointer (some ⟨gt, i * 3 + 2, none⟩)), Is (Value.slice (some ⟨gc, 0, none⟩) m cc), Is (Value.int .i64 (k : Int)), Is (Value.pointer (some ⟨gc, k, none⟩)), Is (Value.int .i64 b), Is (Value.bool OB), Is (Value.bool (!OB))] rfl ⟨is_stab _ _, is_stab _ _, is_stab _ _, is_stab _ _, is_stab _ _, is_stab _ _, is_stab _ _, is_stab _ _, is_stab _ _, is_stab _ _, is_stab _ _, trivial⟩ ⟨?o0, ?o1, ?o2, ?o3, ?o4, ?o5, ?o6, ?o7, ?o8, ?o9, ?o10, trivial⟩ ?_
  case o0 =>
    intro vals wq hRq hpq
    simp only [List.getD_cons_zero, List.getD_cons_succ, canonP]
    have hbx : wq.heap[PG]? = some (.cells #[.int .i64 gr, .int .i64 sz, .int .i64 ni, .int .i64 jr] 43) := (hRq.block PG (by simpa using (Array.getElem?_eq_some_iff.1 HP.out).1) (by simp)).trans HP.out
    rw [if_pos (by rfl)]
    exact gives_load_row 43 _ rfl PG rfl 43 #[.int .i64 gr, .int .i64 sz, .int .i64 ni, .int .i64 jr] (0, 0) _ hbx Try.underlying43 rfl sizeGeo ⟨is_mk _ _, Touch.refl _ _⟩
  case o1 =>
    intro vals wq hRq hpq
    simp only [List.getD_cons_zero, List.getD_cons_succ, canonP]
    simp only [Oper.gives]
    go_simp
    exact ⟨is_mk _ _, (Touch.refl []) _⟩
  case o2 =>
    intro vals wq hRq hpq
    simp only [List.getD_cons_zero, List.getD_cons_succ, canonP]
    simp only [Oper.gives]
    go_simp
    exact ⟨is_mk _ _, (Touch.refl []) _⟩
  case o3 =>
    intro vals wq hRq hpq
    simp only [factsP, List.getD_cons_zero, List.getD_cons_succ] at hpq
    have f1 := hpq.1
    replace hpq := hpq.2
    have f2 := hpq.1
    replace hpq := hpq.2
    clear hpq
    replace f1 : vals 1 = _ := f1
    replace f2 : vals 2 = _ := f2
    simp only [List.getD_cons_zero, List.getD_cons_succ, canonP, f1, f2]
    clear f1 f2
    simp only [Oper.gives]
    go_simp
    exact ⟨is_mk _ _, (Touch.refl []) _⟩
  case o4 =>
    intro vals wq hRq hpq
    simp only [factsP, List.getD_cons_zero, List.getD_cons_succ] at hpq
    have f3 := hpq.1
    replace hpq := hpq.2
    clear hpq
    replace f3 : vals 3 = _ := f3
    simp only [List.getD_cons_zero, List.getD_cons_succ, canonP, f3]
    clear f3
    simp only [Oper.gives]
    go_simp
    exact ⟨is_mk _ _, (Touch.refl []) _⟩
  case o5 =>
    intro vals wq hRq hpq
    simp only [factsP, List.getD_cons_zero, List.getD_cons_succ] at hpq
    have f4 := hpq.1
    replace hpq := hpq.2
    clear hpq
    replace f4 : vals 4 = _ := f4
    simp only [List.getD_cons_zero, List.getD_cons_succ, canonP, f4]
    clear f4
    have hcc : wq.cell? ⟨gt, i * 3 + 2, none⟩ = some (.slice (some ⟨gc, 0, none⟩) m cc) := (Touch.cell ((Touch.drew [] W1).trans hRq (by simp)) (a := ⟨gt, i * 3 + 2, none⟩) HS.out.1 (by simp)).trans HS.out.2
    simp only [Oper.gives]
    go_simp
    exact ⟨is_mk _ _, Touch.refl _ _⟩
  case o6 =>
    intro vals wq hRq hpq
    simp only [List.getD_cons_zero, List.getD_cons_succ, canonP]
    simp only [Oper.gives]
    go_simp
    exact ⟨is_mk _ _, (Touch.refl []) _⟩
  case o7 =>
    intro vals wq hRq hpq
    simp only [factsP, List.getD_cons_zero, List.getD_cons_succ] at hpq
    have f5 := hpq.1
    replace hpq := hpq.2
    have f6 := hpq.1
    replace hpq := hpq.2
    clear hpq
    replace f5 : vals 5 = _ := f5
    replace f6 : vals 6 = _ := f6
    simp only [List.getD_cons_zero, List.getD_cons_succ, canonP, f5, f6]
    clear f5 f6
    simp only [Oper.gives]
    go_simp
    exact ⟨is_mk _ _, (Touch.refl []) _⟩
  case o8 =>
    intro vals wq hRq hpq
    simp only [factsP, List.getD_cons_zero, List.getD_cons_succ] at hpq
    have f7 := hpq.1
    replace hpq := hpq.2
    clear hpq
    replace f7 : vals 7 = _ := f7
    simp only [List.getD_cons_zero, List.getD_cons_succ, canonP, f7]
    clear f7
    have hcc : wq.cell? ⟨gc, k, none⟩ = some (.int .i64 b) := (Touch.cell ((Touch.drew [] W1).trans hRq (by simp)) (a := ⟨gc, k, none⟩) HB.out.1 (by simp)).trans HB.out.2
    simp only [Oper.gives]
    go_simp
    exact ⟨is_mk _ _, Touch.refl _ _⟩
  case o9 =>
    intro vals wq hRq hpq
    simp only [factsP, List.getD_cons_zero, List.getD_cons_succ] at hpq
    have f0 := hpq.1
    replace hpq := hpq.2
    have f8 := hpq.1
    replace hpq := hpq.2
    clear hpq
    replace f0 : vals 0 = _ := f0
    replace f8 : vals 8 = _ := f8
    simp only [List.getD_cons_zero, List.getD_cons_succ, canonP, f0, f8]
    clear f0 f8
    simp only [Oper.gives]
    go_simp
    exact (HC.out wq (((Touch.drew [] W1).trans hRq (by simp)).below (Nat.le_refl _) (by simp))).mono fun e w' ⟨he, hg⟩ => ⟨_, he, is_mk _ _, Touch.of_below hg⟩
  case o10 =>
    intro vals wq hRq hpq
    simp only [factsP, List.getD_cons_zero, List.getD_cons_succ] at hpq
    have f9 := hpq.1
    replace hpq := hpq.2
    clear hpq
    replace f9 : vals 9 = _ := f9
    simp only [List.getD_cons_zero, List.getD_cons_succ, canonP, f9]
    clear f9
    simp only [Oper.gives]
    go_simp
    exact ⟨is_mk _ _, (Touch.refl []) _⟩
  intro vals wz hRwz hfwz
  simp only [AllFacts] at hfwz
  have g0 := hfwz.1
  replace hfwz := hfwz.2
  have g1 := hfwz.1
  replace hfwz := hfwz.2
  have g2 := hfwz.1
  replace hfwz := hfwz.2
  have g3 := hfwz.1
  replace hfwz := hfwz.2
  have g4 := hfwz.1
  replace hfwz := hfwz.2
  have g5 := hfwz.1
  replace hfwz := hfwz.2
  have g6 := hfwz.1
  replace hfwz := hfwz.2
  have g7 := hfwz.1
  replace hfwz := hfwz.2
  have g8 := hfwz.1
  replace hfwz := hfwz.2
  have g9 := hfwz.1
  replace hfwz := hfwz.2
  have g10 := hfwz.1
  replace hfwz := hfwz.2
  clear hfwz
  replace g0 : vals 0 = _ := g0
  replace g1 : vals 1 = _ := g1
  replace g2 : vals 2 = _ := g2
  replace g3 : vals 3 = _ := g3
  replace g4 : vals 4 = _ := g4
  replace g5 : vals 5 = _ := g5
  replace g6 : vals 6 = _ := g6
  replace g7 : vals 7 = _ := g7
  replace g8 : vals 8 = _ := g8
  replace g9 : vals 9 = _ := g9
  replace g10 : vals 10 = _ := g10
  simp only [canonP, Act.put, List.setIfInBounds_toArray, List.set_cons_succ, List.set_cons_zero, g0, g1, g2, g3, g4, g5, g6, g7, g8, g9, g10]
  clear g0 g1 g2 g3 g4 g5 g6 g7 g8 g9 g10
  exact HK.out _ _ _ _ _ _ _ _ _ _ _ ((Touch.drew [] W1).trans hRwz (by simp))
#print axioms may_reg18

end Go.Proofs.Ytlhhbkpocpnebaa
/- replay.outside, quernref19.May: the walks. -/
set_option linter.unusedVariables false
set_option linter.unusedSimpArgs false
namespace Go.Proofs.Ytlhhbkpocpnebaa
open Go.RowKit Go.Maps

/-- do all blocks that transactions name lie outside of the journal? -/
def tOut (G : Int → Bool) (t : PT) : Bool := (t.cs.all fun c => G c.1) && t.rs.all G
def allOut (G : Int → Bool) (L : List PT) : Bool := L.all (tOut G)
theorem all_of_take {α : Type} {p : α → Bool} {l : List α} {k : Nat} {x : α} (hx : l[k]? = some x) (h : (l.take k).all p = true) (hp : p x = true) : (l.take (k + 1)).all p = true := by
  rw [List.take_add_one, hx, List.all_append, h]; simp [hp]
theorem all_no {α : Type} {p : α → Bool} {l : List α} {k : Nat} {x : α} (hx : l[k]? = some x) (hp : p x = false) : l.all p = false := by
  cases h : l.all p with
  | false => rfl
  | true => rw [List.all_eq_true.1 h x (List.mem_of_getElem? hx)] at hp; cases hp
theorem geo_cells {w wr : World} {P : Nat} {a b c d : Int} (h : w.heap[P]? = some (.cells #[.int .i64 a, .int .i64 b, .int .i64 c, .int .i64 d] 43)) (hg : Grow w wr) : wr.heap[P]? = some (.cells #[.int .i64 a, .int .i64 b, .int .i64 c, .int .i64 d] 43) ∧ wr.cell? ⟨P, 0, none⟩ = some (.int .i64 a) ∧ wr.cell? ⟨P, 1, none⟩ = some (.int .i64 b) ∧ wr.cell? ⟨P, 2, none⟩ = some (.int .i64 c) ∧ wr.cell? ⟨P, 3, none⟩ = some (.int .i64 d) := by
  have h1 := (hg.block _ (Array.getElem?_eq_some_iff.1 h).1).trans h
  exact ⟨h1, cell_at h1 0, cell_at h1 1, cell_at h1 2, cell_at h1 3⟩
theorem cells_l {w wr : World} {a : Addr} {u : Value} (h : w.cell? a = some u) (hg : Grow w wr) : a.block < wr.heap.size ∧ wr.cell? a = some u := by
  have hl := World.block_lt_of_cell? _ _ h
  exact ⟨Nat.lt_of_lt_of_le hl hg.size, (hg.cell hl).trans h⟩
theorem cs_le {L : List PT} {t : PT} (h : t ∈ L) : t.cs.length ≤ copyN L := by
  obtain ⟨ii, hii, he⟩ := List.getElem_of_mem h
  have h3 := copyN_take (l := L) (k := ii) (t := t) (by rw [List.getElem?_eq_getElem hii, he])
  have h4 := copyN_le L (ii + 1)
  omega
set_option maxRecDepth 100000 in
set_option maxHeartbeats 16000000 in
theorem outside_ok (gr sz ni jr : Int) {w : World} {v : Value} {xs : List TV} {L : List PT} (h : TRow w v xs) (hts : xs.map (·.t) = L) (hl : xs.length ≤ 10000) (hc : copyN L ≤ 100000) :
    Calls Try.prog 41 #[Geo.gv gr sz ni jr, v] w fun e w' => e = .returned (.bool (allOut (outB gr sz ni jr) L)) ∧ Grow w w' := by
  have HS0 := Lib.hid (h.grow (Grow.alloc w (.cells #[.int .i64 gr, .int .i64 sz, .int .i64 ni, .int .i64 jr] 43)))
  have HTS := Lib.hid hts
  have HCN := Lib.hid hc
  obtain ⟨at0, ct, hv⟩ := h.len
  obtain ⟨n, hn⟩ : ∃ n, n = xs.length := ⟨_, rfl⟩
  have HN := Lib.hid hn
  have HLE := Lib.hid (show n = L.length by rw [hn, ← hts, List.length_map])
  rw [← hn] at hv hl
  subst hv
  have HP0 := Lib.hid (heap_alloc_last w (.cells #[.int .i64 gr, .int .i64 sz, .int .i64 ni, .int .i64 jr] 43))
  have HG0 := Lib.hid (Grow.alloc w (.cells #[.int .i64 gr, .int .i64 sz, .int .i64 ni, .int .i64 jr] 43))
  clear h hts hc hn
  go_enter Try.func41, Try.ntmps41
  go_wp2_with fail
  generalize w.alloc (.cells #[.int .i64 gr, .int .i64 sz, .int .i64 ni, .int .i64 jr] 43) = w0 at *
  obtain ⟨PG, hPG⟩ : ∃ P, P = w.heap.size := ⟨_, rfl⟩
  rw [← hPG] at HP0 ⊢
  clear hPG
  go_loopw [12] (fun t12 wr => ∃ i : Nat, t12 = .int .i64 (i : Int) ∧ i ≤ n ∧ Hid (Grow w0 wr ∧ allOut (outB gr sz ni jr) (L.take i) = true)) (fun t12 _ => n - (intOf t12).toNat)
  case atStart => exact ⟨0, by go_num, by omega, Lib.hid ⟨Grow.refl _, rfl⟩⟩
  case round =>
    obtain ⟨i, rfl, hin, HI⟩ := hrel
    by_cases hi : i < n
    · obtain ⟨x, hx⟩ : ∃ x, xs[i]? = some x := ⟨xs[i]'(by rw [← HN.out]; exact hi), by simp⟩
      have HXT := Lib.hid (show L[i]? = some x.t by rw [← HTS.out, List.getElem?_map, hx]; rfl)
      have HXA := Lib.hid (HS0.out.at_ x (List.mem_of_getElem? hx))
      obtain ⟨gt, cap', ac, nc, cc, ar, nr, cr, hv, _, q1, q2, hvc, hnc, hvr, hnr, _⟩ := HS0.out.elem hx
      rw [← HN.out] at hv
      cases hv
      have HVC := Lib.hid hvc
      have HVR := Lib.hid hvr
      have HNC := Lib.hid hnc
      have HNR := Lib.hid hnr
      have HQ1 := Lib.hid (show w0.cell? ⟨gt, i * 3 + 1, none⟩ = some (.slice ac nc cc) by rw [q1, hvc])
      have HQ2 := Lib.hid (show w0.cell? ⟨gt, i * 3 + 2, none⟩ = some (.slice ar nr cr) by rw [q2, hvr])
      have hncb : nc ≤ 100000 := by
        rw [hnc]
        exact Nat.le_trans (cs_le (List.mem_of_getElem? HXT.out)) HCN.out
      have hnrb : nr ≤ 1000000 := by rw [hnr]; exact HXA.out.ok.rn
      have hq1 := (cells_l HQ1.out HI.out.1).2
      have hb0 : (0 : Int) ≤ (i : Int) := by omega
      have hb1 : (i : Int) < (n : Int) := by omega
      have HC0 := Lib.hid (show Grow w0 wr ∧ ((x.t.cs.take 0).all fun c => outB gr sz ni jr c.1) = true from ⟨HI.out.1, rfl⟩)
      clear hx q1 q2 hvc hnc hvr hnr
      obtain ⟨wo, rfl⟩ : ∃ wo : World, wo = wr := ⟨_, rfl⟩
      go_wp2_with fail
      go_loopw [21] (fun t21 wr => ∃ k : Nat, t21 = .int .i64 (k : Int) ∧ k ≤ nc ∧ Hid (Grow w0 wr ∧ ((x.t.cs.take k).all fun c => outB gr sz ni jr c.1) = true)) (fun t21 _ => nc - (intOf t21).toNat)
      case atStart => exact ⟨0, by go_num, by omega, HC0⟩
      case round =>
        obtain ⟨k, rfl, hkn, HK⟩ := hrel
        clear hq1
        by_cases hk : k < nc
        · obtain ⟨c, hck⟩ : ∃ c, x.t.cs[k]? = some c := ⟨x.t.cs[k]'(by rw [← HNC.out]; exact hk), by simp⟩
          have hrow := (HXA.out.grow HK.out.1).cs
          rw [HVC.out] at hrow
          obtain ⟨gc, cc', hvg, _⟩ := hrow.open_ (by rw [← HNC.out]; omega)
          rw [← HNC.out] at hvg
          cases hvg
          have HRG := Lib.hid (hrow.range hck)
          have HCL := Lib.hid (hrow.blk (List.mem_of_getElem? hck))
          have HCK := Lib.hid hck
          have HSZ7 := Lib.hid (csizeL HCL.out)
          have HSY := Lib.hid (csize HCL.out)
          have HO1 := Lib.hid (all_oneCell_toArray (ccell_one c))
          have HZS := Lib.hid (zsize HCL.out)
          have hz7 := zero40
          have b2 : (0 : Int) ≤ (k : Int) := by omega
          have b3 : (k : Int) < (nc : Int) := by omega
          obtain ⟨Z, hZ⟩ : ∃ Z, Z = (ccell zeroC).toArray := ⟨_, rfl⟩
          rw [← hZ] at HZS hz7
          clear hck hrow hZ
          go_upto_region 7 with (first | (refine wpList_load_mid rfl 40 _ rfl gc (k * 257) rfl (ccell c) _ HRG.out Try.underlying40 rfl HSZ7.out ?_) | (refine wpList_store_row rfl 40 _ _ rfl wr.heap.size (ccell c).toArray rfl rfl 40 Z (heap_alloc_last _ _) HSY.out HZS.out HO1.out ?_))
          have HH2 := Lib.hid (setRow_heap _ _ _ _ _ _ (heap_alloc_last wr (.cells Z 40)) : ((wr.alloc (.cells Z 40)).setRow wr.heap.size (ccell c).toArray).heap[wr.heap.size]? = some (.cells (ccell c).toArray 40))
          have HG2 := Lib.hid (show Grow w0 ((wr.alloc (.cells Z 40)).setRow wr.heap.size (ccell c).toArray) from Grow.trans HK.out.1 (below_setRow ((Below.refl _ _).alloc (Nat.le_refl _) _) (Nat.le_refl _) _))
          generalize (wr.alloc (.cells Z 40)).setRow wr.heap.size (ccell c).toArray = W2 at *
          have hcb : W2.cell? ⟨wr.heap.size, 0, none⟩ = some (.int .i64 c.1) := (cell_at HH2.out 0).trans (by unfold ccell; rfl)
          obtain ⟨_, c0, c1, c2, c3⟩ := geo_cells HP0.out HG2.out
          have HCA := Lib.hid (outside1_ok gr sz ni jr c.1)
          obtain ⟨OB, hOB⟩ : ∃ OB, OB = outB gr sz ni jr c.1 := ⟨_, rfl⟩
          rw [← hOB] at HCA
          have HOB := Lib.hid hOB
          clear hOB hz7
          go_wp2_with fail
          refine (HCA.out _).mono ?_
          intro e w3 hpost
          obtain ⟨he, hg⟩ := hpost
          subst he
          have HG3 := Lib.hid (Grow.trans HG2.out hg)
          clear hg HCA hcb c0 c1 c2 c3
          cases hob : OB with
          | true =>
            have HK2 := Lib.hid (show Grow w0 w3 ∧ ((x.t.cs.take (k + 1)).all fun c => outB gr sz ni jr c.1) = true from ⟨HG3.out, all_of_take HCK.out HK.out.2 (by rw [← HOB.out, hob])⟩)
            clear hob
            go_wp2_with fail
            go_roundw
            case rel => exact ⟨k + 1, by go_num, by omega, HK2⟩
            case measure => simp [intOf]; omega
          | false =>
            have HF := Lib.hid (show allOut (outB gr sz ni jr) L = false from all_no HXT.out (by unfold tOut; rw [all_no (p := fun c : Cp => outB gr sz ni jr c.1) HCK.out (by rw [← HOB.out, hob])]; rfl))
            have HGF := Lib.hid (Grow.trans HG0.out HG3.out)
            clear hob
            go_wp2_with fail
            go_ret
            exact ⟨by rw [HF.out]; rfl, HGF.out⟩
        · obtain rfl : k = nc := by omega
          have HCF := Lib.hid (show (x.t.cs.all fun c => outB gr sz ni jr c.1) = true by have := HK.out.2; rwa [HNC.out, List.take_length] at this)
          have hq2 := (cells_l HQ2.out HK.out.1).2
          have HR0 := Lib.hid (show Grow w0 wr ∧ (x.t.rs.take 0).all (outB gr sz ni jr) = true from ⟨HK.out.1, rfl⟩)
          clear HK
          go_wp2_with fail
          go_loopw [37] (fun t37 wr => ∃ j : Nat, t37 = .int .i64 (j : Int) ∧ j ≤ nr ∧ Hid (Grow w0 wr ∧ (x.t.rs.take j).all (outB gr sz ni jr) = true)) (fun t37 _ => nr - (intOf t37).toNat)
          case atStart => exact ⟨0, by go_num, by omega, HR0⟩
          case round =>
            obtain ⟨j, rfl, hjn, HJ⟩ := hrel
            clear hq2
            by_cases hj : j < nr
            · obtain ⟨z, hz⟩ : ∃ z, x.t.rs[j]? = some z := ⟨x.t.rs[j]'(by rw [← HNR.out]; exact hj), by simp⟩
              have hrow := (HXA.out.grow HJ.out.1).rs
              rw [HVR.out] at hrow
              obtain ⟨gr', cr', hvg, _⟩ := hrow.open_ (by rw [← HNR.out]; omega)
              rw [← HNR.out] at hvg
              cases hvg
              have hcell := hrow.cell hz
              have HZJ := Lib.hid hz
              have b2 : (0 : Int) ≤ (j : Int) := by omega
              have b3 : (j : Int) < (nr : Int) := by omega
              obtain ⟨_, c0, c1, c2, c3⟩ := geo_cells HP0.out HJ.out.1
              have HCA := Lib.hid (outside1_ok gr sz ni jr z)
              obtain ⟨OB, hOB⟩ : ∃ OB, OB = outB gr sz ni jr z := ⟨_, rfl⟩
              rw [← hOB] at HCA
              have HOB := Lib.hid hOB
              clear hOB hz hrow
              go_wp2_with fail
              refine (HCA.out _).mono ?_
              intro e w3 hpost
              obtain ⟨he, hg⟩ := hpost
              subst he
              have HG3 := Lib.hid (Grow.trans HJ.out.1 hg)
              clear hg HCA hcell c0 c1 c2 c3
              cases hob : OB with
              | true =>
                have HK2 := Lib.hid (show Grow w0 w3 ∧ (x.t.rs.take (j + 1)).all (outB gr sz ni jr) = true from ⟨HG3.out, all_of_take HZJ.out HJ.out.2 (by rw [← HOB.out, hob])⟩)
                clear hob
                go_wp2_with fail
                go_roundw
                case rel => exact ⟨j + 1, by go_num, by omega, HK2⟩
                case measure => simp [intOf]; omega
              | false =>
                have HF := Lib.hid (show allOut (outB gr sz ni jr) L = false from all_no HXT.out (by unfold tOut; rw [all_no HZJ.out (by rw [← HOB.out, hob])]; simp))
                have HGF := Lib.hid (Grow.trans HG0.out HG3.out)
                clear hob
                go_wp2_with fail
                go_ret
                exact ⟨by rw [HF.out]; rfl, HGF.out⟩
            · obtain rfl : j = nr := by omega
              have HRF := Lib.hid (show x.t.rs.all (outB gr sz ni jr) = true by have := HJ.out.2; rwa [HNR.out, List.take_length] at this)
              have HI2 := Lib.hid (show Grow w0 wr ∧ allOut (outB gr sz ni jr) (L.take (i + 1)) = true from ⟨HJ.out.1, all_of_take HXT.out HI.out.2 (by unfold tOut; rw [HCF.out, HRF.out]; rfl)⟩)
              go_wp2_with fail
              go_roundw
              case rel => exact ⟨i + 1, by go_num, by omega, HI2⟩
              case measure => simp [intOf]; omega
    · obtain rfl : i = n := by omega
      have HF := Lib.hid (show allOut (outB gr sz ni jr) L = true by have := HI.out.2; rwa [HLE.out, List.take_length] at this)
      have HGF := Lib.hid (Grow.trans HG0.out HI.out.1)
      go_wp2_with fail
      go_ret
      exact ⟨by rw [HF.out]; rfl, HGF.out⟩
#print axioms outside_ok
/-- the document's May, and what Do answers ahead of the disk -/
def mayN (gr sz ni jr blocks : Int) (L : List PT) (s : Nat) : Int :=
  if ¬ Geo.May gr sz ni jr then 50 else if ¬ (blocks = Geo.nBlocks gr sz ni jr ∧ 1 ≤ s ∧ s ≤ 2147483648 ∧ allOut (outB gr sz ni jr) L = true) then 2 else 0
set_option maxRecDepth 100000 in
set_option maxHeartbeats 16000000 in
theorem rmay19_ok (gr sz ni jr blocks : Int) (hb0 : 1 ≤ blocks) {w : World} {v : Value} {xs : List TV} {L : List PT} (h : TRow w v xs) (hts : xs.map (·.t) = L) (hl : xs.length ≤ 10000) (hc : copyN L ≤ 100000) (s : Nat) :
    Calls Try.prog 27 #[.int .i64 blocks, Geo.gv gr sz ni jr, v, .int .u32 (s : Int)] w fun e w' => e = .returned (.int .i64 (mayN gr sz ni jr blocks L s)) ∧ Grow w w' := by
  have HS0 := Lib.hid (h.grow (Grow.alloc w (.cells #[.int .i64 gr, .int .i64 sz, .int .i64 ni, .int .i64 jr] 43)))
  have HTS := Lib.hid hts
  have HCN := Lib.hid hc
  obtain ⟨at0, ct, hv⟩ := h.len
  obtain ⟨n, hn⟩ : ∃ n, n = xs.length := ⟨_, rfl⟩
  have HN := Lib.hid hn
  have HLE := Lib.hid (show n = L.length by rw [hn, ← hts, List.length_map])
  rw [← hn] at hv hl
  subst hv
  have HP0 := Lib.hid (heap_alloc_last w (.cells #[.int .i64 gr, .int .i64 sz, .int .i64 ni, .int .i64 jr] 43))
  have HG0 := Lib.hid (Grow.alloc w (.cells #[.int .i64 gr, .int .i64 sz, .int .i64 ni, .int .i64 jr] 43))
  have e0 : (blocks == 0) = false := by simp; omega
  have HMA := Lib.hid (show ∀ w, Calls Try.prog 48 #[Geo.gv gr sz ni jr] w fun e w' => e = .returned (.bool (decide (Geo.May gr sz ni jr))) ∧ Grow w w' from fun w => by
    by_cases hm : Geo.May gr sz ni jr
    · rw [decide_eq_true hm]; exact Geo.rmay_yes gr sz ni jr hm w
    · rw [decide_eq_false hm]; exact Geo.rmay_no gr sz ni jr hm w)
  have HBL := Lib.hid (rblocks_ok gr sz ni jr)
  have HSQ := Lib.hid (rseq_ok s)
  obtain ⟨MB, hMB⟩ : ∃ MB, MB = decide (Geo.May gr sz ni jr) := ⟨_, rfl⟩
  obtain ⟨NB, hNB⟩ : ∃ NB, NB = Geo.nBlocks gr sz ni jr := ⟨_, rfl⟩
  obtain ⟨SB, hSB⟩ : ∃ SB, SB = decide (1 ≤ s ∧ s ≤ 2147483648) := ⟨_, rfl⟩
  rw [← hMB] at HMA
  rw [← hNB] at HBL
  rw [← hSB] at HSQ
  have HMB := Lib.hid hMB
  have HNB := Lib.hid hNB
  have HSB := Lib.hid hSB
  clear h hts hc hn hMB hNB hSB hb0
  go_enter Try.func27, Try.ntmps27
  go_upto_region 3 with (fail)
  generalize w.alloc (.cells #[.int .i64 gr, .int .i64 sz, .int .i64 ni, .int .i64 jr] 43) = w0 at *
  obtain ⟨PG, hPG⟩ : ∃ P, P = w.heap.size := ⟨_, rfl⟩
  rw [← hPG] at HP0 ⊢
  clear hPG
  obtain ⟨_, c0, c1, c2, c3⟩ := geo_cells HP0.out (Grow.refl w0)
  go_wp2_with fail
  refine (HMA.out _).mono ?_
  intro e w1 hpost
  obtain ⟨he, hg⟩ := hpost
  subst he
  have HG1 := Lib.hid hg
  clear hg c0 c1 c2 c3
  cases hmb : MB with
  | false =>
    have HF := Lib.hid (show mayN gr sz ni jr blocks L s = 50 from if_pos (of_decide_eq_false (by rw [← HMB.out, hmb])))
    have HGF := Lib.hid (Grow.trans HG0.out HG1.out)
    clear hmb
    go_wp2_with fail
    go_ret
    exact ⟨by rw [HF.out]; rfl, HGF.out⟩
  | true =>
    have HM := Lib.hid (show Geo.May gr sz ni jr from of_decide_eq_true (by rw [← HMB.out, hmb]))
    have HMN := Lib.hid (show mayN gr sz ni jr blocks L s = if ¬ (blocks = NB ∧ 1 ≤ s ∧ s ≤ 2147483648 ∧ allOut (outB gr sz ni jr) L = true) then 2 else 0 by unfold mayN; rw [if_neg (not_not_intro HM.out), HNB.out])
    clear hmb
    obtain ⟨_, c0, c1, c2, c3⟩ := geo_cells HP0.out HG1.out
    go_wp2_with fail
    refine (HBL.out _).mono ?_
    intro e w2 hpost
    obtain ⟨he, hg⟩ := hpost
    subst he
    have HG2 := Lib.hid (Grow.trans HG1.out hg)
    clear hg c0 c1 c2 c3
    by_cases hbn : blocks = NB
    · have e1 : (blocks != NB) = false := by simp [hbn]
      have HBN := Lib.hid hbn
      clear hbn
      go_wp2_with fail
      refine (HSQ.out _).mono ?_
      rintro e w' ⟨rfl, rfl⟩
      cases hsb : SB with
      | false =>
        have HF := Lib.hid (show mayN gr sz ni jr blocks L s = 2 by
          rw [HMN.out, if_pos]
          intro k
          have : SB = true := by rw [HSB.out]; exact decide_eq_true ⟨k.2.1, k.2.2.1⟩
          rw [hsb] at this
          cases this)
        have HGF := Lib.hid (Grow.trans HG0.out HG2.out)
        clear hsb
        go_wp2_with fail
        go_ret
        exact ⟨by rw [HF.out]; rfl, HGF.out⟩
      | true =>
        have HSE := Lib.hid (show 1 ≤ s ∧ s ≤ 2147483648 from of_decide_eq_true (by rw [← HSB.out, hsb]))
        clear hsb
        go_wp2_with fail
        go_loopw [9] (fun t9 wr => ∃ i : Nat, t9 = .int .i64 (i : Int) ∧ i ≤ n ∧ Hid (Grow w0 wr ∧ allOut (outB gr sz ni jr) (L.take i) = true)) (fun t9 _ => n - (intOf t9).toNat)
        case atStart => exact ⟨0, by go_num, by omega, Lib.hid ⟨HG2.out, rfl⟩⟩
        case round =>
          obtain ⟨i, rfl, hin, HI⟩ := hrel
          by_cases hi : i < n
          · obtain ⟨x, hx⟩ : ∃ x, xs[i]? = some x := ⟨xs[i]'(by rw [← HN.out]; exact hi), by simp⟩
            have HXT := Lib.hid (show L[i]? = some x.t by rw [← HTS.out, List.getElem?_map, hx]; rfl)
            have HXA := Lib.hid (HS0.out.at_ x (List.mem_of_getElem? hx))
            obtain ⟨gt, cap', ac, nc, cc, ar, nr, cr, hv, _, q1, q2, hvc, hnc, hvr, hnr, _⟩ := HS0.out.elem hx
            rw [← HN.out] at hv
            cases hv
            have HVC := Lib.hid hvc
            have HVR := Lib.hid hvr
            have HNC := Lib.hid hnc
            have HNR := Lib.hid hnr
            have HQ1 := Lib.hid (show w0.cell? ⟨gt, i * 3 + 1, none⟩ = some (.slice ac nc cc) by rw [q1, hvc])
            have HQ2 := Lib.hid (show w0.cell? ⟨gt, i * 3 + 2, none⟩ = some (.slice ar nr cr) by rw [q2, hvr])
            have hncb : nc ≤ 100000 := by
              rw [hnc]
              exact Nat.le_trans (cs_le (List.mem_of_getElem? HXT.out)) HCN.out
            have hnrb : nr ≤ 1000000 := by rw [hnr]; exact HXA.out.ok.rn
            have hb0 : (0 : Int) ≤ (i : Int) := by omega
            have hb1 : (i : Int) < (n : Int) := by omega
            have HC0 := Lib.hid (show Grow w0 wr ∧ ((x.t.cs.take 0).all fun c => outB gr sz ni jr c.1) = true from ⟨HI.out.1, rfl⟩)
            clear hx q1 q2 hvc hnc hvr hnr
            obtain ⟨wo, rfl⟩ : ∃ wo : World, wo = wr := ⟨_, rfl⟩
            go_wp2_with fail
            go_loopw [10] (fun t10 wr => ∃ k : Nat, t10 = .int .i64 (k : Int) ∧ k ≤ nc ∧ Hid (Grow w0 wr ∧ ((x.t.cs.take k).all fun c => outB gr sz ni jr c.1) = true)) (fun t10 _ => nc - (intOf t10).toNat)
            case atStart => exact ⟨0, by go_num, by omega, HC0⟩
            case round =>
              obtain ⟨k, rfl, hkn, HK⟩ := hrel
              have hq1 := (cells_l HQ1.out HK.out.1).2
              by_cases hk : k < nc
              · obtain ⟨c, hck⟩ : ∃ c, x.t.cs[k]? = some c := ⟨x.t.cs[k]'(by rw [← HNC.out]; exact hk), by simp⟩
                have hrow := (HXA.out.grow HK.out.1).cs
                rw [HVC.out] at hrow
                obtain ⟨gc, cc', hvg, hgc⟩ := hrow.open_ (by rw [← HNC.out]; omega)
                rw [← HNC.out] at hvg
                cases hvg
                have HS := Lib.hid (cells_l HQ1.out HK.out.1)
                have HB := Lib.hid (show gc < wr.heap.size ∧ wr.cell? ⟨gc, k * 257, none⟩ = some (.int .i64 c.1) from ⟨hgc, hrow.range hck 0 _ rfl⟩)
                have HCK := Lib.hid hck
                have HP := Lib.hid (geo_cells HP0.out HK.out.1).1
                have HC := Lib.hid (show ∀ w', Grow wr w' → Calls Try.prog 51 #[.agg #[.int .i64 gr, .int .i64 sz, .int .i64 ni, .int .i64 jr], .int .i64 c.1] w' fun e w'' => e = .returned (.bool (outB gr sz ni jr c.1)) ∧ Grow w' w'' from fun w' _ => routside_ok gr sz ni jr c.1 w')
                obtain ⟨OB, hOB⟩ : ∃ OB, OB = outB gr sz ni jr c.1 := ⟨_, rfl⟩
                rw [← hOB] at HC
                have HOB := Lib.hid hOB
                clear hOB hck hrow hgc
                go_upto_region 13 with (fail)
                refine may_reg13 i n k nc gt ct gc cc PG gr sz ni jr c.1 wr hi (by omega) hk (by omega) HP HS HB _ HC _ _ _ _ _ _ _ _ _ _ _ _ _ _ _ _ _ _ _ _ _ _ _ _ _ _ _ _ _ _ _ _ _ _ _ _ _ _ _ _ _ _ _ _ _ _ _ _ _ _ _ _ _ _ _ _ _ _ _ _ _ _ _ _ _ _ _ _ _ _ _ _ (Lib.hid ?hmayreg131)
                intro u42 u43 u44 u45 u46 u47 u48 u49 u50 u51 u52 W2 hRW2
                have HG3 := Lib.hid (Grow.trans HK.out.1 (hRW2.below (Nat.le_refl _) (by simp)))
                clear hRW2 HC HB HS HP hq1
                cases hob : OB with
                | true =>
                  have HK2 := Lib.hid (show Grow w0 W2 ∧ ((x.t.cs.take (k + 1)).all fun c => outB gr sz ni jr c.1) = true from ⟨HG3.out, all_of_take HCK.out HK.out.2 (by rw [← HOB.out, hob])⟩)
                  clear hob
                  go_wp2_with fail
                  go_roundw
                  case rel => exact ⟨k + 1, by go_num, by omega, HK2⟩
                  case measure => simp [intOf]; omega
                | false =>
                  have HF := Lib.hid (show mayN gr sz ni jr blocks L s = 2 by
                    rw [HMN.out, if_pos]
                    intro h
                    have h4 : allOut (outB gr sz ni jr) L = false := all_no HXT.out (by unfold tOut; rw [all_no (p := fun c : Cp => outB gr sz ni jr c.1) HCK.out (by rw [← HOB.out, hob])]; rfl)
                    rw [h4] at h
                    exact absurd h.2.2.2 (by simp))
                  have HGF := Lib.hid (Grow.trans HG0.out HG3.out)
                  clear hob
                  go_wp2_with fail
                  go_ret
                  exact ⟨by rw [HF.out]; rfl, HGF.out⟩
              · obtain rfl : k = nc := by omega
                have HCF := Lib.hid (show (x.t.cs.all fun c => outB gr sz ni jr c.1) = true by have := HK.out.2; rwa [HNC.out, List.take_length] at this)
                have HR0 := Lib.hid (show Grow w0 wr ∧ (x.t.rs.take 0).all (outB gr sz ni jr) = true from ⟨HK.out.1, rfl⟩)
                clear HK
                go_wp2_with fail
                go_loopw [11] (fun t11 wr => ∃ j : Nat, t11 = .int .i64 (j : Int) ∧ j ≤ nr ∧ Hid (Grow w0 wr ∧ (x.t.rs.take j).all (outB gr sz ni jr) = true)) (fun t11 _ => nr - (intOf t11).toNat)
                case atStart => exact ⟨0, by go_num, by omega, HR0⟩
                case round =>
                  obtain ⟨j, rfl, hjn, HJ⟩ := hrel
                  have hq2 := (cells_l HQ2.out HJ.out.1).2
                  by_cases hj : j < nr
                  · obtain ⟨z, hz⟩ : ∃ z, x.t.rs[j]? = some z := ⟨x.t.rs[j]'(by rw [← HNR.out]; exact hj), by simp⟩
                    have hrow := (HXA.out.grow HJ.out.1).rs
                    rw [HVR.out] at hrow
                    obtain ⟨gc, cr', hvg, hgc⟩ := hrow.open_ (by rw [← HNR.out]; omega)
                    rw [← HNR.out] at hvg
                    cases hvg
                    have HS := Lib.hid (cells_l HQ2.out HJ.out.1)
                    have HB := Lib.hid (And.intro hgc (hrow.cell hz))
                    have HZJ := Lib.hid hz
                    have HP := Lib.hid (geo_cells HP0.out HJ.out.1).1
                    have HC := Lib.hid (show ∀ w', Grow wr w' → Calls Try.prog 51 #[.agg #[.int .i64 gr, .int .i64 sz, .int .i64 ni, .int .i64 jr], .int .i64 z] w' fun e w'' => e = .returned (.bool (outB gr sz ni jr z)) ∧ Grow w' w'' from fun w' _ => routside_ok gr sz ni jr z w')
                    obtain ⟨OB, hOB⟩ : ∃ OB, OB = outB gr sz ni jr z := ⟨_, rfl⟩
                    rw [← hOB] at HC
                    have HOB := Lib.hid hOB
                    clear hOB hz hrow hgc
                    go_upto_region 18 with (fail)
                    refine may_reg18 i n j nr gt ct gc cr PG gr sz ni jr z wr hi (by omega) hj (by omega) HP HS HB _ HC _ _ _ _ _ _ _ _ _ _ _ _ _ _ _ _ _ _ _ _ _ _ _ _ _ _ _ _ _ _ _ _ _ _ _ _ _ _ _ _ _ _ _ _ _ _ _ _ _ _ _ _ _ _ _ _ _ _ _ _ _ _ _ _ _ _ _ _ _ _ _ _ (Lib.hid ?hmayreg182)
                    intro u64 u65 u66 u67 u68 u69 u70 u71 u72 u73 W2 hRW2
                    have HG3 := Lib.hid (Grow.trans HJ.out.1 (hRW2.below (Nat.le_refl _) (by simp)))
                    clear hRW2 HC HB HS HP hq2
                    cases hob : OB with
                    | true =>
                      have HK2 := Lib.hid (show Grow w0 W2 ∧ (x.t.rs.take (j + 1)).all (outB gr sz ni jr) = true from ⟨HG3.out, all_of_take HZJ.out HJ.out.2 (by rw [← HOB.out, hob])⟩)
                      clear hob
                      go_wp2_with fail
                      go_roundw
                      case rel => exact ⟨j + 1, by go_num, by omega, HK2⟩
                      case measure => simp [intOf]; omega
                    | false =>
                      have HF := Lib.hid (show mayN gr sz ni jr blocks L s = 2 by
                        rw [HMN.out, if_pos]
                        intro h
                        have h4 : allOut (outB gr sz ni jr) L = false := all_no HXT.out (by unfold tOut; rw [all_no HZJ.out (by rw [← HOB.out, hob])]; simp)
                        rw [h4] at h
                        exact absurd h.2.2.2 (by simp))
                      have HGF := Lib.hid (Grow.trans HG0.out HG3.out)
                      clear hob
                      go_wp2_with fail
                      go_ret
                      exact ⟨by rw [HF.out]; rfl, HGF.out⟩
                  · obtain rfl : j = nr := by omega
                    have HRF := Lib.hid (show x.t.rs.all (outB gr sz ni jr) = true by have := HJ.out.2; rwa [HNR.out, List.take_length] at this)
                    have HI2 := Lib.hid (show Grow w0 wr ∧ allOut (outB gr sz ni jr) (L.take (i + 1)) = true from ⟨HJ.out.1, all_of_take HXT.out HI.out.2 (by unfold tOut; rw [HCF.out, HRF.out]; rfl)⟩)
                    go_wp2_with fail
                    go_roundw
                    case rel => exact ⟨i + 1, by go_num, by omega, HI2⟩
                    case measure => simp [intOf]; omega
          · obtain rfl : i = n := by omega
            have HF := Lib.hid (show mayN gr sz ni jr blocks L s = 0 by
              rw [HMN.out, if_neg]
              refine not_not_intro ⟨HBN.out, HSE.out.1, HSE.out.2, ?_⟩
              have := HI.out.2
              rwa [HLE.out, List.take_length] at this)
            have HGF := Lib.hid (Grow.trans HG0.out HI.out.1)
            go_wp2_with fail
            go_ret
            exact ⟨by rw [HF.out]; rfl, HGF.out⟩
    · have e1 : (blocks != NB) = true := by simp [hbn]
      have HF := Lib.hid (show mayN gr sz ni jr blocks L s = 2 by rw [HMN.out, if_pos (fun k => hbn k.1)])
      have HGF := Lib.hid (Grow.trans HG0.out HG2.out)
      clear hbn
      go_wp2_with fail
      go_ret
      exact ⟨by rw [HF.out]; rfl, HGF.out⟩
#print axioms rmay19_ok
end Go.Proofs.Ytlhhbkpocpnebaa
