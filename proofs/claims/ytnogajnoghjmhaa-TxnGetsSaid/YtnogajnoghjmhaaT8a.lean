/- Put's and Forget's regions that draw their order, over letters. -/
import Derived.Test.YtnogajnoghjmhaaT7
set_option linter.unusedVariables false
set_option linter.unusedSimpArgs false
namespace Go.Proofs.Ytnogajnoghjmhaa
open Go.RowKit Go.Maps

noncomputable def put_reg8Code : Code := regById 8 (codesOf (Try.f10.body.getD .skip))
set_option maxRecDepth 100000 in
set_option maxHeartbeats 4000000 in
theorem put_reg8 (B BX mc N : Nat) (b : Int) (x : Blk) (l : List (Int × Blk)) (W1 : World) (HC0 : Hid (B < W1.heap.size ∧ W1.cell? ⟨B, 0, none⟩ = some (.map (some mc)))) (HCX : Hid (BX < W1.heap.size ∧ W1.heap[BX]? = some (.cells (bc x).toArray 33))) (HSz : Hid (some 256 = some (bc x).toArray.size)) (HX : Hid (x.length = 256)) (HM : Hid (MapIs W1 blkK mc N l)) (hN : N ≤ 100000) (HI : Hid (IntOk b))
    (s2 s3 s4 s6 s7 s8 s9 s10 s11 s12 s13 s14 s15 s16 s17 s18 s19 s20 s21 s22 s23 s24 s25 s26 s27 s28 s29 s30 s31 s32 s33 s34 s35 s36 s37 s38 s39 s40 s41 s42 s43 s44 s45 s46 s47 s48 s49 s50 s51 s52 s53 s54 s55 s56 s57 s58 s59 s60 s61 s62 s63 s64 s65 s66 s67 s68 : Value) (Q : Exit → Act → World → Prop) (HK : Hid (∀ u45 u46 u47 u48 u49 u50 u51 wz, MapIs wz blkK mc (N + 1) (insA l b x) → Touch [mc] W1 wz → Q .normal ⟨(.pointer (some ⟨B, 0, none⟩) :: .int .i64 b :: s2 :: s3 :: s4 :: .pointer (some ⟨BX, 0, none⟩) :: s6 :: s7 :: s8 :: s9 :: s10 :: s11 :: s12 :: s13 :: s14 :: s15 :: s16 :: s17 :: s18 :: s19 :: s20 :: s21 :: s22 :: s23 :: s24 :: s25 :: s26 :: s27 :: s28 :: s29 :: s30 :: s31 :: s32 :: s33 :: s34 :: s35 :: s36 :: s37 :: s38 :: s39 :: s40 :: s41 :: s42 :: s43 :: s44 :: u45 :: u46 :: u47 :: u48 :: u49 :: u50 :: u51 :: s52 :: s53 :: s54 :: s55 :: s56 :: s57 :: s58 :: s59 :: s60 :: s61 :: s62 :: s63 :: s64 :: s65 :: s66 :: s67 :: s68 :: []).toArray, []⟩ (wz))) : put_reg8Code.wp Try.prog Q ⟨(.pointer (some ⟨B, 0, none⟩) :: .int .i64 b :: s2 :: s3 :: s4 :: .pointer (some ⟨BX, 0, none⟩) :: s6 :: s7 :: s8 :: s9 :: s10 :: s11 :: s12 :: s13 :: s14 :: s15 :: s16 :: s17 :: s18 :: s19 :: s20 :: s21 :: s22 :: s23 :: s24 :: s25 :: s26 :: s27 :: s28 :: s29 :: s30 :: s31 :: s32 :: s33 :: s34 :: s35 :: s36 :: s37 :: s38 :: s39 :: s40 :: s41 :: s42 :: s43 :: s44 :: s45 :: s46 :: s47 :: s48 :: s49 :: s50 :: s51 :: s52 :: s53 :: s54 :: s55 :: s56 :: s57 :: s58 :: s59 :: s60 :: s61 :: s62 :: s63 :: s64 :: s65 :: s66 :: s67 :: s68 :: []).toArray, []⟩ W1 := by
  conv => arg 2; whnf
  refine wp_region_facts_tail 7 (by kernel_rfl) (by kernel_rfl) [[], [(0, some 45)], [(1, some 46)], [(2, some 47)], [(3, some 48)], [], []] [(0, some 45), (1, some 46), (2, some 47), (3, some 48), (4, some 49), (5, some 50), (6, some 51)] (by kernel_rfl) (by kernel_rfl) (by kernel_rfl) (Touch []) (Touch.refl []) (fun _ _ _ h h' => h.trans h' (fun i hi => .inl hi)) [Is (Value.pointer (some ⟨B, 0, none⟩)), Is (Value.pointer (some ⟨B, 0, none⟩)), Is (Value.pointer (some ⟨B, 0, none⟩)), Is (Value.pointer (some ⟨B, 0, none⟩)), Is (Value.map (some mc)), Is (Value.int .i64 b), Is (Value.agg (bc x).toArray)] rfl ⟨is_stab _ _, is_stab _ _, is_stab _ _, is_stab _ _, is_stab _ _, is_stab _ _, is_stab _ _, trivial⟩ ⟨?o0, ?o1, ?o2, ?o3, ?o4, ?o5, ?o6, trivial⟩ ?_
  case o0 =>
    intro vals wq hRq hpq
    simp only [List.getD_cons_zero, List.getD_cons_succ, canonP]
    simp only [Oper.gives]
    go_simp
    exact ⟨is_mk _ _, (Touch.refl []) _⟩
  case o1 =>
    intro vals wq hRq hpq
    simp only [factsP, List.getD_cons_zero, List.getD_cons_succ] at hpq
    have f0 := hpq.1
    replace hpq := hpq.2
    clear hpq
    replace f0 : vals 0 = _ := f0
    simp only [List.getD_cons_zero, List.getD_cons_succ, canonP, f0]
    clear f0
    simp only [Oper.gives]
    go_simp
    exact ⟨is_mk _ _, (Touch.refl []) _⟩
  case o2 =>
    intro vals wq hRq hpq
    simp only [factsP, List.getD_cons_zero, List.getD_cons_succ] at hpq
    have f1 := hpq.1
    replace hpq := hpq.2
    clear hpq
    replace f1 : vals 1 = _ := f1
    simp only [List.getD_cons_zero, List.getD_cons_succ, canonP, f1]
    clear f1
    simp only [Oper.gives]
    go_simp
    exact ⟨is_mk _ _, (Touch.refl []) _⟩
  case o3 =>
    intro vals wq hRq hpq
    simp only [factsP, List.getD_cons_zero, List.getD_cons_succ] at hpq
    have f2 := hpq.1
    replace hpq := hpq.2
    clear hpq
    replace f2 : vals 2 = _ := f2
    simp only [List.getD_cons_zero, List.getD_cons_succ, canonP, f2]
    clear f2
    simp only [Oper.gives]
    go_simp
    exact ⟨is_mk _ _, (Touch.refl []) _⟩
  case o4 =>
    intro vals wq hRq hpq
    simp only [factsP, List.getD_cons_zero, List.getD_cons_succ] at hpq
    have f3 := hpq.1
    replace hpq := hpq.2
    clear hpq
    replace f3 : vals 3 = _ := f3
    simp only [List.getD_cons_zero, List.getD_cons_succ, canonP, f3]
    clear f3
    have hcc : wq.cell? ⟨B, 0, none⟩ = some (.map (some mc)) := (Touch.cell ((Touch.drew [] W1).trans hRq (by simp)) (a := ⟨B, 0, none⟩) HC0.out.1 (by simp)).trans HC0.out.2
    simp only [Oper.gives]
    go_simp
    exact ⟨is_mk _ _, Touch.refl _ _⟩
  case o5 =>
    intro vals wq hRq hpq
    simp only [List.getD_cons_zero, List.getD_cons_succ, canonP]
    simp only [Oper.gives]
    go_simp
    exact ⟨is_mk _ _, (Touch.refl []) _⟩
  case o6 =>
    intro vals wq hRq hpq
    simp only [List.getD_cons_zero, List.getD_cons_succ, canonP]
    have hbx : wq.heap[BX]? = some (.cells (bc x).toArray 33) := (Touch.block ((Touch.drew [] W1).trans hRq (by simp)) BX HCX.out.1 (by simp)).trans HCX.out.2
    exact gives_load_row 33 _ rfl BX rfl 33 (bc x).toArray (0, 0) _ hbx Try.underlying33 rfl HSz.out ⟨is_mk _ _, Touch.refl _ _⟩
  intro vals wz hRwz hfwz
  simp only [AllFacts] at hfwz
  have g0 := hfwz.1
  replace hfwz := hfwz.2
  have g1 := hfwz.1
  replace hfwz := hfwz.2
  have g2 := hfwz.1
  replace hfwz := hfwz.2
  have g3 := hfwz.1
  replace hfwz := hfwz.2
  have g4 := hfwz.1
  replace hfwz := hfwz.2
  have g5 := hfwz.1
  replace hfwz := hfwz.2
  have g6 := hfwz.1
  replace hfwz := hfwz.2
  clear hfwz
  replace g0 : vals 0 = _ := g0
  replace g1 : vals 1 = _ := g1
  replace g2 : vals 2 = _ := g2
  replace g3 : vals 3 = _ := g3
  replace g4 : vals 4 = _ := g4
  replace g5 : vals 5 = _ := g5
  replace g6 : vals 6 = _ := g6
  simp only [List.drop_succ_cons, List.drop_zero]
  simp only [canonP, Act.put, List.setIfInBounds_toArray, List.set_cons_succ, List.set_cons_zero, g0, g1, g2, g3, g4, g5, g6]
  clear g0 g1 g2 g3 g4 g5 g6
  have hq := (Touch.drew [] W1).trans hRwz (by simp)
  have HM2 := Lib.hid (HM.out.kept hq (by simp))
  go_wp2_with (first | (at_mapUpdate; refine wpList_mapStore rfl _ _ _ 60 rfl 33 Try.underlying60 mc N l rfl HM2.out hN b HI.out rfl x HX.out rfl ?_; intro w1 hm1 ht1))
  exact HK.out _ _ _ _ _ _ _ _ hm1 (((Touch.refl [mc] W1).trans hq (by simp)).trans ht1 (fun i hi => .inl hi))
#print axioms put_reg8
noncomputable def put_reg10Code : Code := regById 10 (codesOf (Try.f10.body.getD .skip))
set_option maxRecDepth 100000 in
set_option maxHeartbeats 4000000 in
theorem put_reg10 (B rB rm N seq : Nat) (b : Int) (zs : List Int) (W1 : World) (HC3 : Hid (B < W1.heap.size ∧ W1.cell? ⟨B, 3, none⟩ = some (.pointer (some ⟨rB, 0, none⟩)))) (HC4 : Hid (B < W1.heap.size ∧ W1.cell? ⟨B, 4, none⟩ = some (.int .u32 (seq : Int)))) (HR : Hid (RvIs W1 rB rm N seq zs)) (hN : N ≤ 100000) (HSQ : Hid (seq < 4294967296)) (HI : Hid (IntOk b)) (h0 : 0 ≤ b)
    (s2 s3 s4 s5 s6 s7 s8 s9 s10 s11 s12 s13 s14 s15 s16 s17 s18 s19 s20 s21 s22 s23 s24 s25 s26 s27 s28 s29 s30 s31 s32 s33 s34 s35 s36 s37 s38 s39 s40 s41 s42 s43 s44 s45 s46 s47 s48 s49 s50 s51 s52 s53 s54 s55 s56 s57 s58 s59 s60 s61 s62 s63 s64 s65 s66 s67 s68 : Value) (Q : Exit → Act → World → Prop) (HK : Hid (∀ u58 u59 u60 u61 u62 u63 u64 u65 u66 u67 u68 wz, RvIs wz rB rm N seq (delS zs b) → Touch [rm] W1 wz → Q .normal ⟨(.pointer (some ⟨B, 0, none⟩) :: .int .i64 b :: s2 :: s3 :: s4 :: s5 :: s6 :: s7 :: s8 :: s9 :: s10 :: s11 :: s12 :: s13 :: s14 :: s15 :: s16 :: s17 :: s18 :: s19 :: s20 :: s21 :: s22 :: s23 :: s24 :: s25 :: s26 :: s27 :: s28 :: s29 :: s30 :: s31 :: s32 :: s33 :: s34 :: s35 :: s36 :: s37 :: s38 :: s39 :: s40 :: s41 :: s42 :: s43 :: s44 :: s45 :: s46 :: s47 :: s48 :: s49 :: s50 :: s51 :: s52 :: s53 :: s54 :: s55 :: s56 :: s57 :: u58 :: u59 :: u60 :: u61 :: u62 :: u63 :: u64 :: u65 :: u66 :: u67 :: u68 :: []).toArray, []⟩ (wz))) : put_reg10Code.wp Try.prog Q ⟨(.pointer (some ⟨B, 0, none⟩) :: .int .i64 b :: s2 :: s3 :: s4 :: s5 :: s6 :: s7 :: s8 :: s9 :: s10 :: s11 :: s12 :: s13 :: s14 :: s15 :: s16 :: s17 :: s18 :: s19 :: s20 :: s21 :: s22 :: s23 :: s24 :: s25 :: s26 :: s27 :: s28 :: s29 :: s30 :: s31 :: s32 :: s33 :: s34 :: s35 :: s36 :: s37 :: s38 :: s39 :: s40 :: s41 :: s42 :: s43 :: s44 :: s45 :: s46 :: s47 :: s48 :: s49 :: s50 :: s51 :: s52 :: s53 :: s54 :: s55 :: s56 :: s57 :: s58 :: s59 :: s60 :: s61 :: s62 :: s63 :: s64 :: s65 :: s66 :: s67 :: s68 :: []).toArray, []⟩ W1 := by
  conv => arg 2; whnf
  refine wp_region_facts_tail 10 (by kernel_rfl) (by kernel_rfl) [[], [(0, some 58)], [(1, some 59)], [(2, some 60)], [(3, some 61)], [], [], [(6, some 64)], [(7, some 65)], [(8, some 66)]] [(0, some 58), (1, some 59), (2, some 60), (3, some 61), (4, some 62), (5, some 63), (6, some 64), (7, some 65), (8, some 66), (9, some 67)] (by kernel_rfl) (by kernel_rfl) (by kernel_rfl) (Touch []) (Touch.refl []) (fun _ _ _ h h' => h.trans h' (fun i hi => .inl hi)) [Is (Value.pointer (some ⟨B, 0, none⟩)), Is (Value.pointer (some ⟨B, 0, none⟩)), Is (Value.pointer (some ⟨B, 0, none⟩)), Is (Value.pointer (some ⟨B, 3, none⟩)), Is (Value.pointer (some ⟨rB, 0, none⟩)), Is (Value.int .i64 b), Is (Value.pointer (some ⟨B, 0, none⟩)), Is (Value.pointer (some ⟨B, 0, none⟩)), Is (Value.pointer (some ⟨B, 4, none⟩)), Is (Value.int .u32 (seq : Int))] rfl ⟨is_stab _ _, is_stab _ _, is_stab _ _, is_stab _ _, is_stab _ _, is_stab _ _, is_stab _ _, is_stab _ _, is_stab _ _, is_stab _ _, trivial⟩ ⟨?o0, ?o1, ?o2, ?o3, ?o4, ?o5, ?o6, ?o7, ?o8, ?o9, trivial⟩ ?_
  case o0 =>
    intro vals wq hRq hpq
    simp only [List.getD_cons_zero, List.getD_cons_succ, canonP]
    simp only [Oper.gives]
    go_simp
    exact ⟨is_mk _ _, (Touch.refl []) _⟩
  case o1 =>
    intro vals wq hRq hpq
    simp only [factsP, List.getD_cons_zero, List.getD_cons_succ] at hpq
    have f0 := hpq.1
    replace hpq := hpq.2
    clear hpq
    replace f0 : vals 0 = _ := f0
    simp only [List.getD_cons_zero, List.getD_cons_succ, canonP, f0]
    clear f0
    simp only [Oper.gives]
    go_simp
    exact ⟨is_mk _ _, (Touch.refl []) _⟩
  case o2 =>
    intro vals wq hRq hpq
    simp only [factsP, List.getD_cons_zero, List.getD_cons_succ] at hpq
    have f1 := hpq.1
    replace hpq := hpq.2
    clear hpq
    replace f1 : vals 1 = _ := f1
    simp only [List.getD_cons_zero, List.getD_cons_succ, canonP, f1]
    clear f1
    simp only [Oper.gives]
    go_simp
    exact ⟨is_mk _ _, (Touch.refl []) _⟩
  case o3 =>
    intro vals wq hRq hpq
    simp only [factsP, List.getD_cons_zero, List.getD_cons_succ] at hpq
    have f2 := hpq.1
    replace hpq := hpq.2
    clear hpq
    replace f2 : vals 2 = _ := f2
    simp only [List.getD_cons_zero, List.getD_cons_succ, canonP, f2]
    clear f2
    simp only [Oper.gives]
    go_simp
    exact ⟨is_mk _ _, (Touch.refl []) _⟩
  case o4 =>
    intro vals wq hRq hpq
    simp only [factsP, List.getD_cons_zero, List.getD_cons_succ] at hpq
    have f3 := hpq.1
    replace hpq := hpq.2
    clear hpq
    replace f3 : vals 3 = _ := f3
    simp only [List.getD_cons_zero, List.getD_cons_succ, canonP, f3]
    clear f3
    have hcc : wq.cell? ⟨B, 3, none⟩ = some (.pointer (some ⟨rB, 0, none⟩)) := (Touch.cell ((Touch.drew [] W1).trans hRq (by simp)) (a := ⟨B, 3, none⟩) HC3.out.1 (by simp)).trans HC3.out.2
    simp only [Oper.gives]
    go_simp
    exact ⟨is_mk _ _, Touch.refl _ _⟩
  case o5 =>
    intro vals wq hRq hpq
    simp only [List.getD_cons_zero, List.getD_cons_succ, canonP]
    simp only [Oper.gives]
    go_simp
    exact ⟨is_mk _ _, (Touch.refl []) _⟩
  case o6 =>
    intro vals wq hRq hpq
    simp only [List.getD_cons_zero, List.getD_cons_succ, canonP]
    simp only [Oper.gives]
    go_simp
    exact ⟨is_mk _ _, (Touch.refl []) _⟩
  case o7 =>
    intro vals wq hRq hpq
    simp only [factsP, List.getD_cons_zero, List.getD_cons_succ] at hpq
    have f6 := hpq.1
    replace hpq := hpq.2
    clear hpq
    replace f6 : vals 6 = _ := f6
    simp only [List.getD_cons_zero, List.getD_cons_succ, canonP, f6]
    clear f6
    simp only [Oper.gives]
    go_simp
    exact ⟨is_mk _ _, (Touch.refl []) _⟩
  case o8 =>
    intro vals wq hRq hpq
    simp only [factsP, List.getD_cons_zero, List.getD_cons_succ] at hpq
    have f7 := hpq.1
    replace hpq := hpq.2
    clear hpq
    replace f7 : vals 7 = _ := f7
    simp only [List.getD_cons_zero, List.getD_cons_succ, canonP, f7]
    clear f7
    simp only [Oper.gives]
    go_simp
    exact ⟨is_mk _ _, (Touch.refl []) _⟩
  case o9 =>
    intro vals wq hRq hpq
    simp only [factsP, List.getD_cons_zero, List.getD_cons_succ] at hpq
    have f8 := hpq.1
    replace hpq := hpq.2
    clear hpq
    replace f8 : vals 8 = _ := f8
    simp only [List.getD_cons_zero, List.getD_cons_succ, canonP, f8]
    clear f8
    have hcc : wq.cell? ⟨B, 4, none⟩ = some (.int .u32 (seq : Int)) := (Touch.cell ((Touch.drew [] W1).trans hRq (by simp)) (a := ⟨B, 4, none⟩) HC4.out.1 (by simp)).trans HC4.out.2
    simp only [Oper.gives]
    go_simp
    exact ⟨is_mk _ _, Touch.refl _ _⟩
  intro vals wz hRwz hfwz
  simp only [AllFacts] at hfwz
  have g0 := hfwz.1
  replace hfwz := hfwz.2
  have g1 := hfwz.1
  replace hfwz := hfwz.2
  have g2 := hfwz.1
  replace hfwz := hfwz.2
  have g3 := hfwz.1
  replace hfwz := hfwz.2
  have g4 := hfwz.1
  replace hfwz := hfwz.2
  have g5 := hfwz.1
  replace hfwz := hfwz.2
  have g6 := hfwz.1
  replace hfwz := hfwz.2
  have g7 := hfwz.1
  replace hfwz := hfwz.2
  have g8 := hfwz.1
  replace hfwz := hfwz.2
  have g9 := hfwz.1
  replace hfwz := hfwz.2
  clear hfwz
  replace g0 : vals 0 = _ := g0
  replace g1 : vals 1 = _ := g1
  replace g2 : vals 2 = _ := g2
  replace g3 : vals 3 = _ := g3
  replace g4 : vals 4 = _ := g4
  replace g5 : vals 5 = _ := g5
  replace g6 : vals 6 = _ := g6
  replace g7 : vals 7 = _ := g7
  replace g8 : vals 8 = _ := g8
  replace g9 : vals 9 = _ := g9
  simp only [List.drop_succ_cons, List.drop_zero]
  simp only [canonP, Act.put, List.setIfInBounds_toArray, List.set_cons_succ, List.set_cons_zero, g0, g1, g2, g3, g4, g5, g6, g7, g8, g9]
  clear g0 g1 g2 g3 g4 g5 g6 g7 g8 g9
  have hq := (Touch.drew [] W1).trans hRwz (by simp)
  have HR2 := Lib.hid (HR.out.kept hq (by simp) (by simp))
  go_wp2_with fail
  refine (rv_del HR2.out HSQ.out HI.out h0).mono ?_
  rintro e w2 ⟨rfl, h1, h2⟩
  have H1 := Lib.hid h1
  have H2 := Lib.hid h2
  clear h1 h2
  go_wp2_with fail
  exact HK.out _ _ _ _ _ _ _ _ _ _ _ _ H1.out (((Touch.refl [rm] W1).trans hq (by simp)).trans H2.out (fun i hi => .inl hi))
#print axioms put_reg10
noncomputable def forget_reg11Code : Code := regById 11 (codesOf (Try.f18.body.getD .skip))
set_option maxRecDepth 100000 in
set_option maxHeartbeats 4000000 in
theorem forget_reg11 (B rB rm N seq : Nat) (b : Int) (zs : List Int) (W1 : World) (HC3 : Hid (B < W1.heap.size ∧ W1.cell? ⟨B, 3, none⟩ = some (.pointer (some ⟨rB, 0, none⟩)))) (HC4 : Hid (B < W1.heap.size ∧ W1.cell? ⟨B, 4, none⟩ = some (.int .u32 (seq : Int)))) (HR : Hid (RvIs W1 rB rm N seq zs)) (hN : N ≤ 100000) (HSQ : Hid (seq < 4294967296)) (HI : Hid (IntOk b)) (h0 : 0 ≤ b)
    (s2 s3 s4 s5 s6 s7 s8 s9 s10 s11 s12 s13 s14 s15 s16 s17 s18 s19 s20 s21 s22 s23 s24 s25 s26 s27 s28 s29 s30 s31 s32 s33 s34 s35 s36 s37 s38 s39 s40 s41 s42 s43 s44 s45 s46 s47 s48 s49 s50 s51 s52 s53 s54 s55 s56 : Value) (Q : Exit → Act → World → Prop) (HK : Hid (∀ u46 u47 u48 u49 u50 u51 u52 u53 u54 u55 u56 wz, RvIs wz rB rm (N + 1) seq (insS zs b) → Touch [rm] W1 wz → Q .normal ⟨(.pointer (some ⟨B, 0, none⟩) :: .int .i64 b :: s2 :: s3 :: s4 :: s5 :: s6 :: s7 :: s8 :: s9 :: s10 :: s11 :: s12 :: s13 :: s14 :: s15 :: s16 :: s17 :: s18 :: s19 :: s20 :: s21 :: s22 :: s23 :: s24 :: s25 :: s26 :: s27 :: s28 :: s29 :: s30 :: s31 :: s32 :: s33 :: s34 :: s35 :: s36 :: s37 :: s38 :: s39 :: s40 :: s41 :: s42 :: s43 :: s44 :: s45 :: u46 :: u47 :: u48 :: u49 :: u50 :: u51 :: u52 :: u53 :: u54 :: u55 :: u56 :: []).toArray, []⟩ (wz))) : forget_reg11Code.wp Try.prog Q ⟨(.pointer (some ⟨B, 0, none⟩) :: .int .i64 b :: s2 :: s3 :: s4 :: s5 :: s6 :: s7 :: s8 :: s9 :: s10 :: s11 :: s12 :: s13 :: s14 :: s15 :: s16 :: s17 :: s18 :: s19 :: s20 :: s21 :: s22 :: s23 :: s24 :: s25 :: s26 :: s27 :: s28 :: s29 :: s30 :: s31 :: s32 :: s33 :: s34 :: s35 :: s36 :: s37 :: s38 :: s39 :: s40 :: s41 :: s42 :: s43 :: s44 :: s45 :: s46 :: s47 :: s48 :: s49 :: s50 :: s51 :: s52 :: s53 :: s54 :: s55 :: s56 :: []).toArray, []⟩ W1 := by
  conv => arg 2; whnf
  refine wp_region_facts_tail 10 (by kernel_rfl) (by kernel_rfl) [[], [(0, some 46)], [(1, some 47)], [(2, some 48)], [(3, some 49)], [], [], [(6, some 52)], [(7, some 53)], [(8, some 54)]] [(0, some 46), (1, some 47), (2, some 48), (3, some 49), (4, some 50), (5, some 51), (6, some 52), (7, some 53), (8, some 54), (9, some 55)] (by kernel_rfl) (by kernel_rfl) (by kernel_rfl) (Touch []) (Touch.refl []) (fun _ _ _ h h' => h.trans h' (fun i hi => .inl hi)) [Is (Value.pointer (some ⟨B, 0, none⟩)), Is (Value.pointer (some ⟨B, 0, none⟩)), Is (Value.pointer (some ⟨B, 0, none⟩)), Is (Value.pointer (some ⟨B, 3, none⟩)), Is (Value.pointer (some ⟨rB, 0, none⟩)), Is (Value.int .i64 b), Is (Value.pointer (some ⟨B, 0, none⟩)), Is (Value.pointer (some ⟨B, 0, none⟩)), Is (Value.pointer (some ⟨B, 4, none⟩)), Is (Value.int .u32 (seq : Int))] rfl ⟨is_stab _ _, is_stab _ _, is_stab _ _, is_stab _ _, is_stab _ _, is_stab _ _, is_stab _ _, is_stab _ _, is_stab _ _, is_stab _ _, trivial⟩ ⟨?o0, ?o1, ?o2, ?o3, ?o4, ?o5, ?o6, ?o7, ?o8, ?o9, trivial⟩ ?_
  case o0 =>
    intro vals wq hRq hpq
    simp only [List.getD_cons_zero, List.getD_cons_succ, canonP]
    simp only [Oper.gives]
    go_simp
    exact ⟨is_mk _ _, (Touch.refl []) _⟩
  case o1 =>
    intro vals wq hRq hpq
    simp only [factsP, List.getD_cons_zero, List.getD_cons_succ] at hpq
    have f0 := hpq.1
    replace hpq := hpq.2
    clear hpq
    replace f0 : vals 0 = _ := f0
    simp only [List.getD_cons_zero, List.getD_cons_succ, canonP, f0]
    clear f0
    simp only [Oper.gives]
    go_simp
    exact ⟨is_mk _ _, (Touch.refl []) _⟩
  case o2 =>
    intro vals wq hRq hpq
    simp only [factsP, List.getD_cons_zero, List.getD_cons_succ] at hpq
    have f1 := hpq.1
    replace hpq := hpq.2
    clear hpq
    replace f1 : vals 1 = _ := f1
    simp only [List.getD_cons_zero, List.getD_cons_succ, canonP, f1]
    clear f1
    simp only [Oper.gives]
    go_simp
    exact ⟨is_mk _ _, (Touch.refl []) _⟩
  case o3 =>
    intro vals wq hRq hpq
    simp only [factsP, List.getD_cons_zero, List.getD_cons_succ] at hpq
    have f2 := hpq.1
    replace hpq := hpq.2
    clear hpq
    replace f2 : vals 2 = _ := f2
    simp only [List.getD_cons_zero, List.getD_cons_succ, canonP, f2]
    clear f2
    simp only [Oper.gives]
    go_simp
    exact ⟨is_mk _ _, (Touch.refl []) _⟩
  case o4 =>
    intro vals wq hRq hpq
    simp only [factsP, List.getD_cons_zero, List.getD_cons_succ] at hpq
    have f3 := hpq.1
    replace hpq := hpq.2
    clear hpq
    replace f3 : vals 3 = _ := f3
    simp only [List.getD_cons_zero, List.getD_cons_succ, canonP, f3]
    clear f3
    have hcc : wq.cell? ⟨B, 3, none⟩ = some (.pointer (some ⟨rB, 0, none⟩)) := (Touch.cell ((Touch.drew [] W1).trans hRq (by simp)) (a := ⟨B, 3, none⟩) HC3.out.1 (by simp)).trans HC3.out.2
    simp only [Oper.gives]
    go_simp
    exact ⟨is_mk _ _, Touch.refl _ _⟩
  case o5 =>
    intro vals wq hRq hpq
    simp only [List.getD_cons_zero, List.getD_cons_succ, canonP]
    simp only [Oper.gives]
    go_simp
    exact ⟨is_mk _ _, (Touch.refl []) _⟩
  case o6 =>
    intro vals wq hRq hpq
    simp only [List.getD_cons_zero, List.getD_cons_succ, canonP]
    simp only [Oper.gives]
    go_simp
    exact ⟨is_mk _ _, (Touch.refl []) _⟩
  case o7 =>
    intro vals wq hRq hpq
    simp only [factsP, List.getD_cons_zero, List.getD_cons_succ] at hpq
    have f6 := hpq.1
    replace hpq := hpq.2
    clear hpq
    replace f6 : vals 6 = _ := f6
    simp only [List.getD_cons_zero, List.getD_cons_succ, canonP, f6]
    clear f6
    simp only [Oper.gives]
    go_simp
    exact ⟨is_mk _ _, (Touch.refl []) _⟩
  case o8 =>
    intro vals wq hRq hpq
    simp only [factsP, List.getD_cons_zero, List.getD_cons_succ] at hpq
    have f7 := hpq.1
    replace hpq := hpq.2
    clear hpq
    replace f7 : vals 7 = _ := f7
    simp only [List.getD_cons_zero, List.getD_cons_succ, canonP, f7]
    clear f7
    simp only [Oper.gives]
    go_simp
    exact ⟨is_mk _ _, (Touch.refl []) _⟩
  case o9 =>
    intro vals wq hRq hpq
    simp only [factsP, List.getD_cons_zero, List.getD_cons_succ] at hpq
    have f8 := hpq.1
    replace hpq := hpq.2
    clear hpq
    replace f8 : vals 8 = _ := f8
    simp only [List.getD_cons_zero, List.getD_cons_succ, canonP, f8]
    clear f8
    have hcc : wq.cell? ⟨B, 4, none⟩ = some (.int .u32 (seq : Int)) := (Touch.cell ((Touch.drew [] W1).trans hRq (by simp)) (a := ⟨B, 4, none⟩) HC4.out.1 (by simp)).trans HC4.out.2
    simp only [Oper.gives]
    go_simp
    exact ⟨is_mk _ _, Touch.refl _ _⟩
  intro vals wz hRwz hfwz
  simp only [AllFacts] at hfwz
  have g0 := hfwz.1
  replace hfwz := hfwz.2
  have g1 := hfwz.1
  replace hfwz := hfwz.2
  have g2 := hfwz.1
  replace hfwz := hfwz.2
  have g3 := hfwz.1
  replace hfwz := hfwz.2
  have g4 := hfwz.1
  replace hfwz := hfwz.2
  have g5 := hfwz.1
  replace hfwz := hfwz.2
  have g6 := hfwz.1
  replace hfwz := hfwz.2
  have g7 := hfwz.1
  replace hfwz := hfwz.2
  have g8 := hfwz.1
  replace hfwz := hfwz.2
  have g9 := hfwz.1
  replace hfwz := hfwz.2
  clear hfwz
  replace g0 : vals 0 = _ := g0
  replace g1 : vals 1 = _ := g1
  replace g2 : vals 2 = _ := g2
  replace g3 : vals 3 = _ := g3
  replace g4 : vals 4 = _ := g4
  replace g5 : vals 5 = _ := g5
  replace g6 : vals 6 = _ := g6
  replace g7 : vals 7 = _ := g7
  replace g8 : vals 8 = _ := g8
  replace g9 : vals 9 = _ := g9
  simp only [List.drop_succ_cons, List.drop_zero]
  simp only [canonP, Act.put, List.setIfInBounds_toArray, List.set_cons_succ, List.set_cons_zero, g0, g1, g2, g3, g4, g5, g6, g7, g8, g9]
  clear g0 g1 g2 g3 g4 g5 g6 g7 g8 g9
  have hq := (Touch.drew [] W1).trans hRwz (by simp)
  have HR2 := Lib.hid (HR.out.kept hq (by simp) (by simp))
  go_wp2_with fail
  refine (rv_add HR2.out hN HSQ.out HI.out h0).mono ?_
  rintro e w2 ⟨rfl, h1, h2⟩
  have H1 := Lib.hid h1
  have H2 := Lib.hid h2
  clear h1 h2
  go_wp2_with fail
  exact HK.out _ _ _ _ _ _ _ _ _ _ _ _ H1.out (((Touch.refl [rm] W1).trans hq (by simp)).trans H2.out (fun i hi => .inl hi))
#print axioms forget_reg11
end Go.Proofs.Ytnogajnoghjmhaa
