/- Begin's last region: the parts are cloned and kept. -/
import Derived.Test.YtnogajnoghjmhaaT5
import Derived.Test.YtnogajnoghjmhaaRegionN
set_option linter.unusedVariables false
set_option linter.unusedSimpArgs false
namespace Go.Proofs.Ytnogajnoghjmhaa
open Go.RowKit Go.Maps

noncomputable def begin_reg9Code : Code := regById 9 (codesOf (Try.f9.body.getD .skip))
set_option maxRecDepth 100000 in
set_option maxHeartbeats 4000000 in
theorem begin_reg9 (B N seq : Nat) (a : PA) (s : PS) (W1 : World) (HB : Hid (B < W1.heap.size)) (HS4 : Hid (B < W1.heap.size ∧ W1.cell? ⟨B, 4, none⟩ = some (.int .u32 (seq : Int)))) (HC0 : Hid (W1.cell? ⟨B, 0, none⟩ = some (.map (some a.c)))) (HC1 : Hid (W1.cell? ⟨B, 1, none⟩ = some (.map (some a.o)))) (HC2 : Hid (W1.cell? ⟨B, 2, none⟩ = some (.map (some a.f)))) (HC3 : Hid (W1.cell? ⟨B, 3, none⟩ = some (.pointer (some ⟨a.B, 0, none⟩)))) (HD9 : Hid (∃ v, W1.cell? ⟨B, 9, none⟩ = some v)) (HF9 : Hid (W1.frozen? ⟨B, 9, none⟩ = false)) (HD10 : Hid (∃ v, W1.cell? ⟨B, 10, none⟩ = some v)) (HF10 : Hid (W1.frozen? ⟨B, 10, none⟩ = false)) (HD11 : Hid (∃ v, W1.cell? ⟨B, 11, none⟩ = some v)) (HF11 : Hid (W1.frozen? ⟨B, 11, none⟩ = false)) (HD12 : Hid (∃ v, W1.cell? ⟨B, 12, none⟩ = some v)) (HF12 : Hid (W1.frozen? ⟨B, 12, none⟩ = false)) (HP : Hid (PIs W1 a N seq s)) (hN : N ≤ 100000) (HSQ : Hid (seq < 4294967296))
    (s1 s2 s3 s4 s5 s6 s7 s8 s9 s10 s11 s12 s13 s14 s15 s16 s17 s18 s19 s20 s21 s22 s23 s24 s25 s26 s27 s28 s29 s30 s31 s32 s33 s34 s35 s36 s37 s38 s39 s40 s41 s42 s43 s44 s45 s46 s47 s48 : Value) (Q : Exit → Act → World → Prop) (HK : Hid (∀ u38 u39 u40 u41 u42 u43 u44 u45 u46 u47 u48 wz, ∀ b, Touch [] W1 wz → PIs wz b N seq s → b.ids.Nodup → (∀ i ∈ b.ids, W1.heap.size ≤ i) → Q .normal ⟨(.pointer (some ⟨B, 0, none⟩) :: s1 :: s2 :: s3 :: s4 :: s5 :: s6 :: s7 :: s8 :: s9 :: s10 :: s11 :: s12 :: s13 :: s14 :: s15 :: s16 :: s17 :: s18 :: s19 :: s20 :: s21 :: s22 :: s23 :: s24 :: s25 :: s26 :: s27 :: s28 :: s29 :: s30 :: s31 :: s32 :: s33 :: s34 :: s35 :: s36 :: s37 :: u38 :: u39 :: u40 :: u41 :: u42 :: u43 :: u44 :: u45 :: u46 :: u47 :: u48 :: []).toArray, []⟩ (((((wz.setCell ⟨B, 9, none⟩ (.map (some b.c))).setCell ⟨B, 10, none⟩ (.map (some b.o))).setCell ⟨B, 11, none⟩ (.map (some b.f))).setCell ⟨B, 12, none⟩ (.pointer (some ⟨b.B, 0, none⟩)))))) : begin_reg9Code.wp Try.prog Q ⟨(.pointer (some ⟨B, 0, none⟩) :: s1 :: s2 :: s3 :: s4 :: s5 :: s6 :: s7 :: s8 :: s9 :: s10 :: s11 :: s12 :: s13 :: s14 :: s15 :: s16 :: s17 :: s18 :: s19 :: s20 :: s21 :: s22 :: s23 :: s24 :: s25 :: s26 :: s27 :: s28 :: s29 :: s30 :: s31 :: s32 :: s33 :: s34 :: s35 :: s36 :: s37 :: s38 :: s39 :: s40 :: s41 :: s42 :: s43 :: s44 :: s45 :: s46 :: s47 :: s48 :: []).toArray, []⟩ W1 := by
  conv => arg 2; whnf
  refine wp_region_facts_tail 11 (by kernel_rfl) (by kernel_rfl) [[], [], [(1, some 39)], [(2, some 40)], [], [(4, some 42)], [(5, some 43)], [(6, some 44)], [(3, some 41), (7, some 45)], [(0, some 38), (1, some 39), (2, some 40), (3, some 41), (4, some 42), (5, some 43), (6, some 44), (7, some 45), (8, some 46)], [(0, some 38), (1, some 39), (2, some 40), (3, some 41), (4, some 42), (5, some 43), (6, some 44), (7, some 45), (8, some 46), (9, some 47)]] [(0, some 38), (1, some 39), (2, some 40), (3, some 41), (4, some 42), (5, some 43), (6, some 44), (7, some 45), (8, some 46), (9, some 47), (10, some 48)] (by kernel_rfl) (by kernel_rfl) (by kernel_rfl) (Touch []) (Touch.refl []) (fun _ _ _ h h' => h.trans h' (fun i hi => .inl hi)) [Is (Value.pointer (some ⟨B, 0, none⟩)), Is (Value.pointer (some ⟨B, 0, none⟩)), Is (Value.pointer (some ⟨B, 0, none⟩)), Is (Value.pointer (some ⟨B, 0, none⟩)), Is (Value.pointer (some ⟨B, 0, none⟩)), Is (Value.pointer (some ⟨B, 0, none⟩)), Is (Value.pointer (some ⟨B, 4, none⟩)), Is (Value.int .u32 (seq : Int)), (fun v wx => ∃ b, v = .agg (cellsP b).toArray ∧ PIs wx b N seq s ∧ b.ids.Nodup ∧ ∀ i ∈ b.ids, W1.heap.size ≤ i ∧ i < wx.heap.size), Is (Value.pointer (some ⟨B, 0, none⟩)), Is (Value.pointer (some ⟨B, 9, none⟩))] rfl ⟨is_stab _ _, is_stab _ _, is_stab _ _, is_stab _ _, is_stab _ _, is_stab _ _, is_stab _ _, is_stab _ _, (fun v wa wb hab ⟨b, h1, h2, h3, h4⟩ => ⟨b, h1, h2.kept hab (by simp), h3, fun i hi => ⟨(h4 i hi).1, Nat.lt_of_lt_of_le (h4 i hi).2 hab.size⟩⟩), is_stab _ _, is_stab _ _, trivial⟩ ⟨?o0, ?o1, ?o2, ?o3, ?o4, ?o5, ?o6, ?o7, ?o8, ?o9, ?o10, trivial⟩ ?_
  case o0 =>
    intro vals wq hRq hpq
    simp only [List.getD_cons_zero, List.getD_cons_succ, canonP]
    simp only [Oper.gives]
    go_simp
    exact ⟨is_mk _ _, (Touch.refl []) _⟩
  case o1 =>
    intro vals wq hRq hpq
    simp only [List.getD_cons_zero, List.getD_cons_succ, canonP]
    simp only [Oper.gives]
    go_simp
    exact ⟨is_mk _ _, (Touch.refl []) _⟩
  case o2 =>
    intro vals wq hRq hpq
    simp only [factsP, List.getD_cons_zero, List.getD_cons_succ] at hpq
    have f1 := hpq.1
    replace hpq := hpq.2
    clear hpq
    replace f1 : vals 1 = _ := f1
    simp only [List.getD_cons_zero, List.getD_cons_succ, canonP, f1]
    clear f1
    simp only [Oper.gives]
    go_simp
    exact ⟨is_mk _ _, (Touch.refl []) _⟩
  case o3 =>
    intro vals wq hRq hpq
    simp only [factsP, List.getD_cons_zero, List.getD_cons_succ] at hpq
    have f2 := hpq.1
    replace hpq := hpq.2
    clear hpq
    replace f2 : vals 2 = _ := f2
    simp only [List.getD_cons_zero, List.getD_cons_succ, canonP, f2]
    clear f2
    simp only [Oper.gives]
    go_simp
    exact ⟨is_mk _ _, (Touch.refl []) _⟩
  case o4 =>
    intro vals wq hRq hpq
    simp only [List.getD_cons_zero, List.getD_cons_succ, canonP]
    simp only [Oper.gives]
    go_simp
    exact ⟨is_mk _ _, (Touch.refl []) _⟩
  case o5 =>
    intro vals wq hRq hpq
    simp only [factsP, List.getD_cons_zero, List.getD_cons_succ] at hpq
    have f4 := hpq.1
    replace hpq := hpq.2
    clear hpq
    replace f4 : vals 4 = _ := f4
    simp only [List.getD_cons_zero, List.getD_cons_succ, canonP, f4]
    clear f4
    simp only [Oper.gives]
    go_simp
    exact ⟨is_mk _ _, (Touch.refl []) _⟩
  case o6 =>
    intro vals wq hRq hpq
    simp only [factsP, List.getD_cons_zero, List.getD_cons_succ] at hpq
    have f5 := hpq.1
    replace hpq := hpq.2
    clear hpq
    replace f5 : vals 5 = _ := f5
    simp only [List.getD_cons_zero, List.getD_cons_succ, canonP, f5]
    clear f5
    simp only [Oper.gives]
    go_simp
    exact ⟨is_mk _ _, (Touch.refl []) _⟩
  case o7 =>
    intro vals wq hRq hpq
    simp only [factsP, List.getD_cons_zero, List.getD_cons_succ] at hpq
    have f6 := hpq.1
    replace hpq := hpq.2
    clear hpq
    replace f6 : vals 6 = _ := f6
    simp only [List.getD_cons_zero, List.getD_cons_succ, canonP, f6]
    clear f6
    have hcc : wq.cell? ⟨B, 4, none⟩ = some (.int .u32 (seq : Int)) := (Touch.cell ((Touch.drew [] W1).trans hRq (by simp)) (a := ⟨B, 4, none⟩) HS4.out.1 (by simp)).trans HS4.out.2
    simp only [Oper.gives]
    go_simp
    exact ⟨is_mk _ _, Touch.refl _ _⟩
  case o8 =>
    intro vals wq hRq hpq
    simp only [factsP, List.getD_cons_zero, List.getD_cons_succ] at hpq
    have f3 := hpq.1
    replace hpq := hpq.2
    have f7 := hpq.1
    replace hpq := hpq.2
    clear hpq
    replace f3 : vals 3 = _ := f3
    replace f7 : vals 7 = _ := f7
    simp only [List.getD_cons_zero, List.getD_cons_succ, canonP, f3, f7]
    clear f3 f7
    have hq := ((Touch.drew [] W1).trans hRq (by simp))
    have hP := HP.out.kept hq (by simp)
    have k0 := (hq.cell (a := ⟨B, 0, none⟩) HB.out (by simp)).trans HC0.out
    have k1 := (hq.cell (a := ⟨B, 1, none⟩) HB.out (by simp)).trans HC1.out
    have k2 := (hq.cell (a := ⟨B, 2, none⟩) HB.out (by simp)).trans HC2.out
    have k3 := (hq.cell (a := ⟨B, 3, none⟩) HB.out (by simp)).trans HC3.out
    simp only [Oper.gives]
    go_simp
    refine (clone_ok hP hN HSQ.out k0 k1 k2 k3 (Nat.lt_of_lt_of_le HB.out hq.size)).mono ?_
    rintro e w' ⟨b, rfl, h1, h2, h3, h4⟩
    exact ⟨_, rfl, ⟨b, rfl, h1, h3, fun i hi => ⟨Nat.le_trans hq.size (h4 i hi), h1.lt i hi⟩⟩, Touch.of_below h2⟩
  case o9 =>
    intro vals wq hRq hpq
    simp only [factsP, List.getD_cons_zero, List.getD_cons_succ] at hpq
    have f0 := hpq.1
    replace hpq := hpq.2
    have f1 := hpq.1
    replace hpq := hpq.2
    have f2 := hpq.1
    replace hpq := hpq.2
    have f3 := hpq.1
    replace hpq := hpq.2
    have f4 := hpq.1
    replace hpq := hpq.2
    have f5 := hpq.1
    replace hpq := hpq.2
    have f6 := hpq.1
    replace hpq := hpq.2
    have f7 := hpq.1
    replace hpq := hpq.2
    have f8 := hpq.1
    replace hpq := hpq.2
    clear hpq
    replace f0 : vals 0 = _ := f0
    replace f1 : vals 1 = _ := f1
    replace f2 : vals 2 = _ := f2
    replace f3 : vals 3 = _ := f3
    replace f4 : vals 4 = _ := f4
    replace f5 : vals 5 = _ := f5
    replace f6 : vals 6 = _ := f6
    replace f7 : vals 7 = _ := f7
    simp only [List.getD_cons_zero, List.getD_cons_succ, canonP, f0, f1, f2, f3, f4, f5, f6, f7]
    clear f0 f1 f2 f3 f4 f5 f6 f7
    simp only [Oper.gives]
    go_simp
    exact ⟨is_mk _ _, (Touch.refl []) _⟩
  case o10 =>
    intro vals wq hRq hpq
    simp only [factsP, List.getD_cons_zero, List.getD_cons_succ] at hpq
    have f0 := hpq.1
    replace hpq := hpq.2
    have f1 := hpq.1
    replace hpq := hpq.2
    have f2 := hpq.1
    replace hpq := hpq.2
    have f3 := hpq.1
    replace hpq := hpq.2
    have f4 := hpq.1
    replace hpq := hpq.2
    have f5 := hpq.1
    replace hpq := hpq.2
    have f6 := hpq.1
    replace hpq := hpq.2
    have f7 := hpq.1
    replace hpq := hpq.2
    have f8 := hpq.1
    replace hpq := hpq.2
    have f9 := hpq.1
    replace hpq := hpq.2
    clear hpq
    replace f0 : vals 0 = _ := f0
    replace f1 : vals 1 = _ := f1
    replace f2 : vals 2 = _ := f2
    replace f3 : vals 3 = _ := f3
    replace f4 : vals 4 = _ := f4
    replace f5 : vals 5 = _ := f5
    replace f6 : vals 6 = _ := f6
    replace f7 : vals 7 = _ := f7
    replace f9 : vals 9 = _ := f9
    simp only [List.getD_cons_zero, List.getD_cons_succ, canonP, f0, f1, f2, f3, f4, f5, f6, f7, f9]
    clear f0 f1 f2 f3 f4 f5 f6 f7 f9
    simp only [Oper.gives]
    go_simp
    exact ⟨is_mk _ _, (Touch.refl []) _⟩
  intro vals wz hRwz hfwz
  simp only [AllFacts] at hfwz
  have g0 := hfwz.1
  replace hfwz := hfwz.2
  have g1 := hfwz.1
  replace hfwz := hfwz.2
  have g2 := hfwz.1
  replace hfwz := hfwz.2
  have g3 := hfwz.1
  replace hfwz := hfwz.2
  have g4 := hfwz.1
  replace hfwz := hfwz.2
  have g5 := hfwz.1
  replace hfwz := hfwz.2
  have g6 := hfwz.1
  replace hfwz := hfwz.2
  have g7 := hfwz.1
  replace hfwz := hfwz.2
  have g8 := hfwz.1
  replace hfwz := hfwz.2
  have g9 := hfwz.1
  replace hfwz := hfwz.2
  have g10 := hfwz.1
  replace hfwz := hfwz.2
  clear hfwz
  replace g0 : vals 0 = _ := g0
  replace g1 : vals 1 = _ := g1
  replace g2 : vals 2 = _ := g2
  replace g3 : vals 3 = _ := g3
  replace g4 : vals 4 = _ := g4
  replace g5 : vals 5 = _ := g5
  replace g6 : vals 6 = _ := g6
  replace g7 : vals 7 = _ := g7
  replace g9 : vals 9 = _ := g9
  replace g10 : vals 10 = _ := g10
  simp only [List.drop_succ_cons, List.drop_zero]
  simp only [canonP, Act.put, List.setIfInBounds_toArray, List.set_cons_succ, List.set_cons_zero, g0, g1, g2, g3, g4, g5, g6, g7, g9, g10]
  clear g0 g1 g2 g3 g4 g5 g6 g7 g9 g10
  obtain ⟨b, hb, hb1, hb2, hb3⟩ := g8
  rw [hb]
  have hq := (Touch.drew [] W1).trans hRwz (by simp)
  obtain ⟨v9, hv9⟩ := HD9.out
  have k9 := (hq.cell (a := ⟨B, 9, none⟩) HB.out (by simp)).trans hv9
  have f9 := (hq.frozen (a := ⟨B, 9, none⟩) HB.out (by simp)).trans HF9.out
  obtain ⟨v10, hv10⟩ := HD10.out
  have k10 := (hq.cell (a := ⟨B, 10, none⟩) HB.out (by simp)).trans hv10
  have f10 := (hq.frozen (a := ⟨B, 10, none⟩) HB.out (by simp)).trans HF10.out
  obtain ⟨v11, hv11⟩ := HD11.out
  have k11 := (hq.cell (a := ⟨B, 11, none⟩) HB.out (by simp)).trans hv11
  have f11 := (hq.frozen (a := ⟨B, 11, none⟩) HB.out (by simp)).trans HF11.out
  obtain ⟨v12, hv12⟩ := HD12.out
  have k12 := (hq.cell (a := ⟨B, 12, none⟩) HB.out (by simp)).trans hv12
  have f12 := (hq.frozen (a := ⟨B, 12, none⟩) HB.out (by simp)).trans HF12.out
  unfold cellsP
  have HB2 := Lib.hid hb2
  clear hb2 hb
  go_wp2_with fail
  exact HK.out _ _ _ _ _ _ _ _ _ _ _ _ b hq hb1 HB2.out (fun i hi => (hb3 i hi).1)
#print axioms begin_reg9
end Go.Proofs.Ytnogajnoghjmhaa
