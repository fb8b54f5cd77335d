/- Trans' region that draws its order, over letters. -/
import Derived.Test.YtnogajnoghjmhaaCp
set_option linter.unusedVariables false
set_option linter.unusedSimpArgs false
namespace Go.Proofs.Ytnogajnoghjmhaa
open Go.RowKit Go.Maps

/-- a row of integers, new since W -/
def SlA (W : World) (zs : List Int) (v : Value) (wx : World) : Prop := ∃ a6 n6 c6, v = .slice a6 n6 c6 ∧ IRow wx v zs ∧ ∀ g, v.ownBlock = some g → W.heap.size ≤ g
noncomputable def trans_reg9Code : Code := regById 9 (codesOf (Try.f15.body.getD .skip))
set_option maxRecDepth 100000 in
set_option maxHeartbeats 4000000 in
theorem trans_reg9 (B T2 N seq : Nat) (a : PA) (f : Bool) (s : PS) (a3 : Option Addr) (n3 c3 : Nat) (W1 : World) (HV : Hid (TV W1 B a N seq f s)) (HC4 : Hid (B < W1.heap.size ∧ W1.cell? ⟨B, 4, none⟩ = some (.int .u32 (seq : Int)))) (hN : N ≤ 100000) (HT2 : Hid (T2 < W1.heap.size ∧ W1.heap[T2]? = some (.cells #[.int .u32 0, .slice none 0 0, .slice none 0 0] 41)))
    (s1 s4 s5 s6 s7 s8 s9 s10 s11 s12 s13 s14 s15 s16 s17 s18 s19 s20 s21 s22 s23 s24 s25 s26 s27 s28 s29 s30 s31 s32 s33 s34 s35 s36 s37 s38 s39 s40 s41 : Value) (Q : Exit → Act → World → Prop) (HK : Hid (∀ u34 u35 u36 u37 u38 u39 u40 u41 wz, ∀ a6 n6 c6, IRow wz (.slice a6 n6 c6) s.rv → Touch [] W1 wz → (∀ g, (Value.slice a6 n6 c6).ownBlock = some g → W1.heap.size ≤ g) → Q .normal ⟨(.pointer (some ⟨B, 0, none⟩) :: s1 :: .pointer (some ⟨T2, 0, none⟩) :: .slice a3 n3 c3 :: s4 :: s5 :: s6 :: s7 :: s8 :: s9 :: s10 :: s11 :: s12 :: s13 :: s14 :: s15 :: s16 :: s17 :: s18 :: s19 :: s20 :: s21 :: s22 :: s23 :: s24 :: s25 :: s26 :: s27 :: s28 :: s29 :: s30 :: s31 :: s32 :: s33 :: u34 :: u35 :: u36 :: u37 :: u38 :: u39 :: u40 :: u41 :: []).toArray, []⟩ ((((wz.setCell ⟨T2, 0, none⟩ (.int .u32 (seq : Int))).setCell ⟨T2, 1, none⟩ (.slice a3 n3 c3)).setCell ⟨T2, 2, none⟩ (.slice a6 n6 c6))))) : trans_reg9Code.wp Try.prog Q ⟨(.pointer (some ⟨B, 0, none⟩) :: s1 :: .pointer (some ⟨T2, 0, none⟩) :: .slice a3 n3 c3 :: s4 :: s5 :: s6 :: s7 :: s8 :: s9 :: s10 :: s11 :: s12 :: s13 :: s14 :: s15 :: s16 :: s17 :: s18 :: s19 :: s20 :: s21 :: s22 :: s23 :: s24 :: s25 :: s26 :: s27 :: s28 :: s29 :: s30 :: s31 :: s32 :: s33 :: s34 :: s35 :: s36 :: s37 :: s38 :: s39 :: s40 :: s41 :: []).toArray, []⟩ W1 := by
  conv => arg 2; whnf
  refine wp_region_facts_tail 7 (by kernel_rfl) (by kernel_rfl) [[], [(0, some 34)], [(1, some 35)], [(2, some 36)], [], [], [(5, some 39)]] [(0, some 34), (1, some 35), (2, some 36), (3, some 37), (4, some 38), (5, some 39), (6, some 40)] (by kernel_rfl) (by kernel_rfl) (by kernel_rfl) (Touch []) (Touch.refl []) (fun _ _ _ h h' => h.trans h' (fun i hi => .inl hi)) [Is (Value.pointer (some ⟨B, 0, none⟩)), Is (Value.pointer (some ⟨B, 0, none⟩)), Is (Value.pointer (some ⟨B, 4, none⟩)), Is (Value.int .u32 (seq : Int)), Is (Value.slice a3 n3 c3), Is (Value.pointer (some ⟨B, 0, none⟩)), (SlA W1 s.rv)] rfl ⟨is_stab _ _, is_stab _ _, is_stab _ _, is_stab _ _, is_stab _ _, is_stab _ _, (fun v wa wb hab ⟨a6, n6, c6, h1, h2, h3⟩ => ⟨a6, n6, c6, h1, Row.kept h2 hab (by simp), h3⟩), trivial⟩ ⟨?o0, ?o1, ?o2, ?o3, ?o4, ?o5, ?o6, trivial⟩ ?_
  case o0 =>
    intro vals wq hRq hpq
    simp only [List.getD_cons_zero, List.getD_cons_succ, canonP]
    simp only [Oper.gives]
    go_simp
    exact ⟨is_mk _ _, (Touch.refl []) _⟩
  case o1 =>
    intro vals wq hRq hpq
    simp only [factsP, List.getD_cons_zero, List.getD_cons_succ] at hpq
    have f0 := hpq.1
    replace hpq := hpq.2
    clear hpq
    replace f0 : vals 0 = _ := f0
    simp only [List.getD_cons_zero, List.getD_cons_succ, canonP, f0]
    clear f0
    simp only [Oper.gives]
    go_simp
    exact ⟨is_mk _ _, (Touch.refl []) _⟩
  case o2 =>
    intro vals wq hRq hpq
    simp only [factsP, List.getD_cons_zero, List.getD_cons_succ] at hpq
    have f1 := hpq.1
    replace hpq := hpq.2
    clear hpq
    replace f1 : vals 1 = _ := f1
    simp only [List.getD_cons_zero, List.getD_cons_succ, canonP, f1]
    clear f1
    simp only [Oper.gives]
    go_simp
    exact ⟨is_mk _ _, (Touch.refl []) _⟩
  case o3 =>
    intro vals wq hRq hpq
    simp only [factsP, List.getD_cons_zero, List.getD_cons_succ] at hpq
    have f2 := hpq.1
    replace hpq := hpq.2
    clear hpq
    replace f2 : vals 2 = _ := f2
    simp only [List.getD_cons_zero, List.getD_cons_succ, canonP, f2]
    clear f2
    have hcc : wq.cell? ⟨B, 4, none⟩ = some (.int .u32 (seq : Int)) := (Touch.cell ((Touch.drew [] W1).trans hRq (by simp)) (a := ⟨B, 4, none⟩) HC4.out.1 (by simp)).trans HC4.out.2
    simp only [Oper.gives]
    go_simp
    exact ⟨is_mk _ _, Touch.refl _ _⟩
  case o4 =>
    intro vals wq hRq hpq
    simp only [List.getD_cons_zero, List.getD_cons_succ, canonP]
    simp only [Oper.gives]
    go_simp
    exact ⟨is_mk _ _, (Touch.refl []) _⟩
  case o5 =>
    intro vals wq hRq hpq
    simp only [List.getD_cons_zero, List.getD_cons_succ, canonP]
    simp only [Oper.gives]
    go_simp
    exact ⟨is_mk _ _, (Touch.refl []) _⟩
  case o6 =>
    intro vals wq hRq hpq
    simp only [factsP, List.getD_cons_zero, List.getD_cons_succ] at hpq
    have f5 := hpq.1
    replace hpq := hpq.2
    clear hpq
    replace f5 : vals 5 = _ := f5
    simp only [List.getD_cons_zero, List.getD_cons_succ, canonP, f5]
    clear f5
    have hq := ((Touch.drew [] W1).trans hRq (by simp))
    have hV := HV.out.kept hq
    simp only [Oper.gives]
    go_simp
    refine (revoked_is hV hN).mono ?_
    rintro e w' ⟨v, rfl, h1, h2, h3⟩
    obtain ⟨a6, c6, hv⟩ := h1.len
    exact ⟨v, rfl, ⟨a6, _, c6, hv, h1, fun g e => Nat.le_trans hq.size (h3 g e)⟩, Touch.of_below h2⟩
  intro vals wz hRwz hfwz
  simp only [AllFacts] at hfwz
  have g0 := hfwz.1
  replace hfwz := hfwz.2
  have g1 := hfwz.1
  replace hfwz := hfwz.2
  have g2 := hfwz.1
  replace hfwz := hfwz.2
  have g3 := hfwz.1
  replace hfwz := hfwz.2
  have g4 := hfwz.1
  replace hfwz := hfwz.2
  have g5 := hfwz.1
  replace hfwz := hfwz.2
  have g6 := hfwz.1
  replace hfwz := hfwz.2
  clear hfwz
  replace g0 : vals 0 = _ := g0
  replace g1 : vals 1 = _ := g1
  replace g2 : vals 2 = _ := g2
  replace g3 : vals 3 = _ := g3
  replace g4 : vals 4 = _ := g4
  replace g5 : vals 5 = _ := g5
  simp only [List.drop_succ_cons, List.drop_zero]
  simp only [canonP, Act.put, List.setIfInBounds_toArray, List.set_cons_succ, List.set_cons_zero, g0, g1, g2, g3, g4, g5]
  clear g0 g1 g2 g3 g4 g5
  unfold SlA at g6
  obtain ⟨a6, n6, c6, hv, h1, h2⟩ := g6
  rw [hv] at h1 h2 ⊢
  have hq := (Touch.drew [] W1).trans hRwz (by simp)
  have hT := (hq.block T2 HT2.out.1 (by simp)).trans HT2.out.2
  have k0 := cell_at hT 0
  have f0 := frozen_at hT 0
  have k1 := cell_at hT 1
  have f1 := frozen_at hT 1
  have k2 := cell_at hT 2
  have f2 := frozen_at hT 2
  simp only [List.getElem?_toArray, List.getElem?_cons_zero, List.getElem?_cons_succ] at k0 k1 k2
  have H1 := Lib.hid h1
  have H2 := Lib.hid h2
  have HQ := Lib.hid hq
  clear h1 h2 hv hT hq
  go_wp2_with fail
  exact HK.out _ _ _ _ _ _ _ _ _ a6 n6 c6 H1.out HQ.out H2.out
#print axioms trans_reg9
end Go.Proofs.Ytnogajnoghjmhaa
