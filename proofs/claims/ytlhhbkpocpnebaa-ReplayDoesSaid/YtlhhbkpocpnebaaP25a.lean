/- quernref19.copied: the region that swaps. -/
import Derived.Test.YtlhhbkpocpnebaaP21a
import Derived.Test.YtlhhbkpocpnebaaRegionN
set_option linter.unusedVariables false
set_option linter.unusedSimpArgs false
namespace Go.Proofs.Ytlhhbkpocpnebaa
open Go.RowKit Go.Maps

noncomputable def copied_reg14Code : Code := regById 14 (codesOf (Try.f34.body.getD .skip))
set_option maxRecDepth 100000 in
set_option maxHeartbeats 4000000 in
theorem copied_reg14 (g j m kk : Nat) (b y : Int) (C : Array Value) (t : TypeId) (W1 : World) (hjm : j < m) (hmb : m ≤ 1000000) (hby : b < y) (HC : Hid (W1.heap[g]? = some (.cells C t))) (HCY : Hid (C[j]? = some (.int .i64 y))) (HCB : Hid (C[j + 1]? = some (.int .i64 b)))
    (s0 s1 s2 s4 s5 s6 s8 s9 s10 s11 s12 s13 s14 s15 s16 s17 s18 s19 s20 s21 s22 s23 s24 s25 s26 s27 s28 s29 s30 s31 s32 s33 s34 s35 s36 s37 s38 s39 s40 s41 s42 s43 s44 s45 s46 s47 s48 s49 s50 s51 s52 s53 s54 s55 s56 s57 s58 s59 s60 s61 s62 s63 s64 s65 s66 s67 s68 s69 s70 s71 s72 s73 s74 s75 : Value) (Q : Exit → Act → World → Prop) (HK : Hid (∀ u59 u60 u61 u62 u63 u64 u65 u66 u67 u68 u69 u70 u71 u72 u73 u74 wz, Touch [g] W1 wz → wz.heap[g]? = some (.cells ((C.setIfInBounds j (.int .i64 b)).setIfInBounds (j + 1) (.int .i64 y)) t) → Q .normal ⟨(s0 :: s1 :: s2 :: .slice (some ⟨g, 0, none⟩) (m + 1) kk :: s4 :: s5 :: s6 :: .int .i64 ((j + 1 : Nat) : Int) :: s8 :: s9 :: s10 :: s11 :: s12 :: s13 :: s14 :: s15 :: s16 :: s17 :: s18 :: s19 :: s20 :: s21 :: s22 :: s23 :: s24 :: s25 :: s26 :: s27 :: s28 :: s29 :: s30 :: s31 :: s32 :: s33 :: s34 :: s35 :: s36 :: s37 :: s38 :: s39 :: s40 :: s41 :: s42 :: s43 :: s44 :: s45 :: s46 :: s47 :: s48 :: s49 :: s50 :: s51 :: s52 :: s53 :: s54 :: s55 :: s56 :: s57 :: s58 :: u59 :: u60 :: u61 :: u62 :: u63 :: u64 :: u65 :: u66 :: u67 :: u68 :: u69 :: u70 :: u71 :: u72 :: u73 :: u74 :: s75 :: []).toArray, []⟩ wz)) : copied_reg14Code.wp Try.prog Q ⟨(s0 :: s1 :: s2 :: .slice (some ⟨g, 0, none⟩) (m + 1) kk :: s4 :: s5 :: s6 :: .int .i64 ((j + 1 : Nat) : Int) :: s8 :: s9 :: s10 :: s11 :: s12 :: s13 :: s14 :: s15 :: s16 :: s17 :: s18 :: s19 :: s20 :: s21 :: s22 :: s23 :: s24 :: s25 :: s26 :: s27 :: s28 :: s29 :: s30 :: s31 :: s32 :: s33 :: s34 :: s35 :: s36 :: s37 :: s38 :: s39 :: s40 :: s41 :: s42 :: s43 :: s44 :: s45 :: s46 :: s47 :: s48 :: s49 :: s50 :: s51 :: s52 :: s53 :: s54 :: s55 :: s56 :: s57 :: s58 :: s59 :: s60 :: s61 :: s62 :: s63 :: s64 :: s65 :: s66 :: s67 :: s68 :: s69 :: s70 :: s71 :: s72 :: s73 :: s74 :: s75 :: []).toArray, []⟩ W1 := by
  have hj0 : (0 : Int) ≤ (j : Int) + 1 := by omega
  have hj1 : (j : Int) < (m : Int) + 1 := by omega
  have hwj : IntKind.i64.wrap (j : Int) = (j : Int) := by rw [IntKind.wrap_i64]; omega
  have HJL := Lib.hid (Array.getElem?_eq_some_iff.1 HCY.out).1
  have HN0 := Lib.hid (show ∀ p ∈ ([(8, fun wx => wx.heap[g]? = some (.cells C t)), (13, fun wx => wx.heap[g]? = some (.cells C t)), (15, fun wx => wx.heap[g]? = some (.cells C t)), (17, fun wx => wx.heap[g]? = some (.cells C t) ∨ wx.heap[g]? = some (.cells (C.setIfInBounds j (.int .i64 b)) t))] : List (Nat × (World → Prop))), p.2 W1.drew from fun p hp => by
    simp only [List.mem_cons, List.not_mem_nil, or_false] at hp
    rcases hp with rfl | rfl | rfl | rfl
    · exact HC.out
    · exact HC.out
    · exact HC.out
    · exact .inl HC.out)
  conv => arg 2; whnf
  refine wp_region_factsN [15, 17] [(8, fun wx => wx.heap[g]? = some (.cells C t)), (13, fun wx => wx.heap[g]? = some (.cells C t)), (15, fun wx => wx.heap[g]? = some (.cells C t)), (17, fun wx => wx.heap[g]? = some (.cells C t) ∨ wx.heap[g]? = some (.cells (C.setIfInBounds j (.int .i64 b)) t))] (by kernel_rfl) [[], [], [(1, some 60)], [], [], [], [], [(5, some 64), (6, some 65)], [(7, some 66)], [], [], [(10, some 69)], [(9, some 68), (11, some 70)], [(12, some 71)], [(0, some 59), (1, some 60), (2, some 61), (5, some 64), (6, some 65), (7, some 66), (8, some 67), (13, some 72)], [(0, some 59), (1, some 60), (2, some 61), (5, some 64), (6, some 65), (7, some 66), (8, some 67), (13, some 72), (14, some 73)], [(0, some 59), (1, some 60), (2, some 61), (3, some 62), (4, some 63), (5, some 64), (6, some 65), (7, some 66), (8, some 67), (9, some 68), (10, some 69), (11, some 70), (12, some 71), (13, some 72), (14, some 73), (15, none)], [(0, some 59), (1, some 60), (2, some 61), (3, some 62), (4, some 63), (5, some 64), (6, some 65), (7, some 66), (8, some 67), (9, some 68), (10, some 69), (11, some 70), (12, some 71), (13, some 72), (14, some 73), (15, none), (16, some 74)]] [(0, some 59), (1, some 60), (2, some 61), (3, some 62), (4, some 63), (5, some 64), (6, some 65), (7, some 66), (8, some 67), (9, some 68), (10, some 69), (11, some 70), (12, some 71), (13, some 72), (14, some 73), (15, none), (16, some 74), (17, none)] (by kernel_rfl) (by kernel_rfl) (by kernel_rfl) (Touch [g]) (Touch.refl [g]) (fun _ _ _ h h' => h.trans h' (fun i hi => .inl hi)) [Is (Value.slice (some ⟨g, 0, none⟩) (m + 1) kk), Is (Value.int .i64 ((j + 1 : Nat) : Int)), Is (Value.int .i64 (j : Int)), Is (Value.slice (some ⟨g, 0, none⟩) (m + 1) kk), Is (Value.int .i64 ((j + 1 : Nat) : Int)), Is (Value.slice (some ⟨g, 0, none⟩) (m + 1) kk), Is (Value.int .i64 ((j + 1 : Nat) : Int)), Is (Value.pointer (some ⟨g, j + 1, none⟩)), Is (Value.int .i64 b), Is (Value.slice (some ⟨g, 0, none⟩) (m + 1) kk), Is (Value.int .i64 ((j + 1 : Nat) : Int)), Is (Value.int .i64 (j : Int)), Is (Value.pointer (some ⟨g, j, none⟩)), Is (Value.int .i64 y), Is (Value.pointer (some ⟨g, j, none⟩)), (fun _ wx => wx.heap[g]? = some (.cells (C.setIfInBounds j (.int .i64 b)) t) ∨ wx.heap[g]? = some (.cells ((C.setIfInBounds j (.int .i64 b)).setIfInBounds (j + 1) (.int .i64 y)) t)), Is (Value.pointer (some ⟨g, j + 1, none⟩)), (fun _ wx => wx.heap[g]? = some (.cells ((C.setIfInBounds j (.int .i64 b)).setIfInBounds (j + 1) (.int .i64 y)) t))] rfl ⟨.inr (is_stab _ _), .inr (is_stab _ _), .inr (is_stab _ _), .inr (is_stab _ _), .inr (is_stab _ _), .inr (is_stab _ _), .inr (is_stab _ _), .inr (is_stab _ _), .inr (is_stab _ _), .inr (is_stab _ _), .inr (is_stab _ _), .inr (is_stab _ _), .inr (is_stab _ _), .inr (is_stab _ _), .inr (is_stab _ _), .inl (by simp), .inr (is_stab _ _), .inl (by simp), trivial⟩ HN0.out ⟨?o0, ?o1, ?o2, ?o3, ?o4, ?o5, ?o6, ?o7, ?o8, ?o9, ?o10, ?o11, ?o12, ?o13, ?o14, ?o15, ?o16, ?o17, trivial⟩ ?_
  case o0 =>
    intro vals wq hRq hNq hpq
    simp only [List.getD_cons_zero, List.getD_cons_succ, canonP]
    simp only [Oper.gives]
    go_simp
    first | exact ⟨is_mk _ _, (Touch.refl [g]) _⟩ | exact ⟨is_mk _ _, (Touch.refl [g]) _, (fun _ _ _ _ h => h), (fun _ _ _ _ _ h => h)⟩
  case o1 =>
    intro vals wq hRq hNq hpq
    simp only [List.getD_cons_zero, List.getD_cons_succ, canonP]
    simp only [Oper.gives]
    go_simp
    first | exact ⟨is_mk _ _, (Touch.refl [g]) _⟩ | exact ⟨is_mk _ _, (Touch.refl [g]) _, (fun _ _ _ _ h => h), (fun _ _ _ _ _ h => h)⟩
  case o2 =>
    intro vals wq hRq hNq hpq
    simp only [factsP, List.getD_cons_zero, List.getD_cons_succ] at hpq
    have f1 := hpq.1
    replace hpq := hpq.2
    clear hpq
    replace f1 : vals 1 = _ := f1
    simp only [List.getD_cons_zero, List.getD_cons_succ, canonP, f1]
    clear f1
    simp only [Oper.gives]
    go_simp
    first | exact ⟨is_mk _ _, (Touch.refl [g]) _⟩ | exact ⟨is_mk _ _, (Touch.refl [g]) _, (fun _ _ _ _ h => h), (fun _ _ _ _ _ h => h)⟩
  case o3 =>
    intro vals wq hRq hNq hpq
    simp only [List.getD_cons_zero, List.getD_cons_succ, canonP]
    simp only [Oper.gives]
    go_simp
    first | exact ⟨is_mk _ _, (Touch.refl [g]) _⟩ | exact ⟨is_mk _ _, (Touch.refl [g]) _, (fun _ _ _ _ h => h), (fun _ _ _ _ _ h => h)⟩
  case o4 =>
    intro vals wq hRq hNq hpq
    simp only [List.getD_cons_zero, List.getD_cons_succ, canonP]
    simp only [Oper.gives]
    go_simp
    first | exact ⟨is_mk _ _, (Touch.refl [g]) _⟩ | exact ⟨is_mk _ _, (Touch.refl [g]) _, (fun _ _ _ _ h => h), (fun _ _ _ _ _ h => h)⟩
  case o5 =>
    intro vals wq hRq hNq hpq
    simp only [List.getD_cons_zero, List.getD_cons_succ, canonP]
    simp only [Oper.gives]
    go_simp
    first | exact ⟨is_mk _ _, (Touch.refl [g]) _⟩ | exact ⟨is_mk _ _, (Touch.refl [g]) _, (fun _ _ _ _ h => h), (fun _ _ _ _ _ h => h)⟩
  case o6 =>
    intro vals wq hRq hNq hpq
    simp only [List.getD_cons_zero, List.getD_cons_succ, canonP]
    simp only [Oper.gives]
    go_simp
    first | exact ⟨is_mk _ _, (Touch.refl [g]) _⟩ | exact ⟨is_mk _ _, (Touch.refl [g]) _, (fun _ _ _ _ h => h), (fun _ _ _ _ _ h => h)⟩
  case o7 =>
    intro vals wq hRq hNq hpq
    simp only [factsP, List.getD_cons_zero, List.getD_cons_succ] at hpq
    have f5 := hpq.1
    replace hpq := hpq.2
    have f6 := hpq.1
    replace hpq := hpq.2
    clear hpq
    replace f5 : vals 5 = _ := f5
    replace f6 : vals 6 = _ := f6
    simp only [List.getD_cons_zero, List.getD_cons_succ, canonP, f5, f6]
    clear f5 f6
    simp only [Oper.gives]
    go_simp
    first | exact ⟨is_mk _ _, (Touch.refl [g]) _⟩ | exact ⟨is_mk _ _, (Touch.refl [g]) _, (fun _ _ _ _ h => h), (fun _ _ _ _ _ h => h)⟩
  case o8 =>
    intro vals wq hRq hNq hpq
    simp only [factsP, List.getD_cons_zero, List.getD_cons_succ] at hpq
    have f7 := hpq.1
    replace hpq := hpq.2
    clear hpq
    replace f7 : vals 7 = _ := f7
    simp only [List.getD_cons_zero, List.getD_cons_succ, canonP, f7]
    clear f7
    have h0 : wq.heap[g]? = some (.cells C t) := hNq (8, fun wx => wx.heap[g]? = some (.cells C t)) (List.Mem.head _) rfl
    have hcc : wq.cell? ⟨g, j + 1, none⟩ = some (.int .i64 b) := (cell_at h0 (j + 1)).trans HCB.out
    simp only [Oper.gives]
    go_simp
    first | exact ⟨is_mk _ _, Touch.refl _ _⟩ | exact ⟨is_mk _ _, Touch.refl _ _, (fun _ _ _ _ h => h), (fun _ _ _ _ _ h => h)⟩
  case o9 =>
    intro vals wq hRq hNq hpq
    simp only [List.getD_cons_zero, List.getD_cons_succ, canonP]
    simp only [Oper.gives]
    go_simp
    first | exact ⟨is_mk _ _, (Touch.refl [g]) _⟩ | exact ⟨is_mk _ _, (Touch.refl [g]) _, (fun _ _ _ _ h => h), (fun _ _ _ _ _ h => h)⟩
  case o10 =>
    intro vals wq hRq hNq hpq
    simp only [List.getD_cons_zero, List.getD_cons_succ, canonP]
    simp only [Oper.gives]
    go_simp
    first | exact ⟨is_mk _ _, (Touch.refl [g]) _⟩ | exact ⟨is_mk _ _, (Touch.refl [g]) _, (fun _ _ _ _ h => h), (fun _ _ _ _ _ h => h)⟩
  case o11 =>
    intro vals wq hRq hNq hpq
    simp only [factsP, List.getD_cons_zero, List.getD_cons_succ] at hpq
    have f10 := hpq.1
    replace hpq := hpq.2
    clear hpq
    replace f10 : vals 10 = _ := f10
    simp only [List.getD_cons_zero, List.getD_cons_succ, canonP, f10]
    clear f10
    simp only [Oper.gives]
    go_simp
    first | exact ⟨is_mk _ _, (Touch.refl [g]) _⟩ | exact ⟨is_mk _ _, (Touch.refl [g]) _, (fun _ _ _ _ h => h), (fun _ _ _ _ _ h => h)⟩
  case o12 =>
    intro vals wq hRq hNq hpq
    simp only [factsP, List.getD_cons_zero, List.getD_cons_succ] at hpq
    have f9 := hpq.1
    replace hpq := hpq.2
    have f11 := hpq.1
    replace hpq := hpq.2
    clear hpq
    replace f9 : vals 9 = _ := f9
    replace f11 : vals 11 = _ := f11
    simp only [List.getD_cons_zero, List.getD_cons_succ, canonP, f9, f11]
    clear f9 f11
    simp only [Oper.gives]
    go_simp
    first | exact ⟨is_mk _ _, (Touch.refl [g]) _⟩ | exact ⟨is_mk _ _, (Touch.refl [g]) _, (fun _ _ _ _ h => h), (fun _ _ _ _ _ h => h)⟩
  case o13 =>
    intro vals wq hRq hNq hpq
    simp only [factsP, List.getD_cons_zero, List.getD_cons_succ] at hpq
    have f12 := hpq.1
    replace hpq := hpq.2
    clear hpq
    replace f12 : vals 12 = _ := f12
    simp only [List.getD_cons_zero, List.getD_cons_succ, canonP, f12]
    clear f12
    have h0 : wq.heap[g]? = some (.cells C t) := hNq (13, fun wx => wx.heap[g]? = some (.cells C t)) (.tail _ (List.Mem.head _)) rfl
    have hcc : wq.cell? ⟨g, j, none⟩ = some (.int .i64 y) := (cell_at h0 j).trans HCY.out
    simp only [Oper.gives]
    go_simp
    first | exact ⟨is_mk _ _, Touch.refl _ _⟩ | exact ⟨is_mk _ _, Touch.refl _ _, (fun _ _ _ _ h => h), (fun _ _ _ _ _ h => h)⟩
  case o14 =>
    intro vals wq hRq hNq hpq
    simp only [factsP, List.getD_cons_zero, List.getD_cons_succ] at hpq
    have f0 := hpq.1
    replace hpq := hpq.2
    have f1 := hpq.1
    replace hpq := hpq.2
    have f2 := hpq.1
    replace hpq := hpq.2
    have f5 := hpq.1
    replace hpq := hpq.2
    have f6 := hpq.1
    replace hpq := hpq.2
    have f7 := hpq.1
    replace hpq := hpq.2
    have f8 := hpq.1
    replace hpq := hpq.2
    have f13 := hpq.1
    replace hpq := hpq.2
    clear hpq
    replace f0 : vals 0 = _ := f0
    replace f1 : vals 1 = _ := f1
    replace f2 : vals 2 = _ := f2
    replace f5 : vals 5 = _ := f5
    replace f6 : vals 6 = _ := f6
    replace f7 : vals 7 = _ := f7
    replace f8 : vals 8 = _ := f8
    replace f13 : vals 13 = _ := f13
    simp only [List.getD_cons_zero, List.getD_cons_succ, canonP, f0, f1, f2, f5, f6, f7, f8, f13]
    clear f0 f1 f2 f5 f6 f7 f8 f13
    simp only [Oper.gives]
    go_simp
    first | exact ⟨is_mk _ _, (Touch.refl [g]) _⟩ | exact ⟨is_mk _ _, (Touch.refl [g]) _, (fun _ _ _ _ h => h), (fun _ _ _ _ _ h => h)⟩
  case o15 =>
    intro vals wq hRq hNq hpq
    simp only [factsP, List.getD_cons_zero, List.getD_cons_succ] at hpq
    have f0 := hpq.1
    replace hpq := hpq.2
    have f1 := hpq.1
    replace hpq := hpq.2
    have f2 := hpq.1
    replace hpq := hpq.2
    have f5 := hpq.1
    replace hpq := hpq.2
    have f6 := hpq.1
    replace hpq := hpq.2
    have f7 := hpq.1
    replace hpq := hpq.2
    have f8 := hpq.1
    replace hpq := hpq.2
    have f13 := hpq.1
    replace hpq := hpq.2
    have f14 := hpq.1
    replace hpq := hpq.2
    clear hpq
    replace f0 : vals 0 = _ := f0
    replace f1 : vals 1 = _ := f1
    replace f2 : vals 2 = _ := f2
    replace f5 : vals 5 = _ := f5
    replace f6 : vals 6 = _ := f6
    replace f7 : vals 7 = _ := f7
    replace f8 : vals 8 = _ := f8
    replace f13 : vals 13 = _ := f13
    replace f14 : vals 14 = _ := f14
    simp only [List.getD_cons_zero, List.getD_cons_succ, canonP, f0, f1, f2, f5, f6, f7, f8, f13, f14]
    clear f0 f1 f2 f5 f6 f7 f8 f13 f14
    have h0 : wq.heap[g]? = some (.cells C t) := hNq (15, fun wx => wx.heap[g]? = some (.cells C t)) (.tail _ (.tail _ (List.Mem.head _))) rfl
    have hcc : wq.cell? ⟨g, j, none⟩ = some (.int .i64 y) := (cell_at h0 j).trans HCY.out
    have hfz : wq.frozen? ⟨g, j, none⟩ = false := frozen_at h0 j
    simp only [Oper.gives]
    go_simp
    exact ⟨.inl (heap_set h0 j _), Touch.setCell _ (by simp) _, .inr (heap_set h0 j _)⟩
  case o16 =>
    intro vals wq hRq hNq hpq
    simp only [factsP, List.getD_cons_zero, List.getD_cons_succ] at hpq
    have f0 := hpq.1
    replace hpq := hpq.2
    have f1 := hpq.1
    replace hpq := hpq.2
    have f2 := hpq.1
    replace hpq := hpq.2
    have f3 := hpq.1
    replace hpq := hpq.2
    have f4 := hpq.1
    replace hpq := hpq.2
    have f5 := hpq.1
    replace hpq := hpq.2
    have f6 := hpq.1
    replace hpq := hpq.2
    have f7 := hpq.1
    replace hpq := hpq.2
    have f8 := hpq.1
    replace hpq := hpq.2
    have f9 := hpq.1
    replace hpq := hpq.2
    have f10 := hpq.1
    replace hpq := hpq.2
    have f11 := hpq.1
    replace hpq := hpq.2
    have f12 := hpq.1
    replace hpq := hpq.2
    have f13 := hpq.1
    replace hpq := hpq.2
    have f14 := hpq.1
    replace hpq := hpq.2
    have f15 := hpq.1
    replace hpq := hpq.2
    clear hpq
    replace f0 : vals 0 = _ := f0
    replace f1 : vals 1 = _ := f1
    replace f2 : vals 2 = _ := f2
    replace f3 : vals 3 = _ := f3
    replace f4 : vals 4 = _ := f4
    replace f5 : vals 5 = _ := f5
    replace f6 : vals 6 = _ := f6
    replace f7 : vals 7 = _ := f7
    replace f8 : vals 8 = _ := f8
    replace f9 : vals 9 = _ := f9
    replace f10 : vals 10 = _ := f10
    replace f11 : vals 11 = _ := f11
    replace f12 : vals 12 = _ := f12
    replace f13 : vals 13 = _ := f13
    replace f14 : vals 14 = _ := f14
    simp only [List.getD_cons_zero, List.getD_cons_succ, canonP, f0, f1, f2, f3, f4, f5, f6, f7, f8, f9, f10, f11, f12, f13, f14]
    clear f0 f1 f2 f3 f4 f5 f6 f7 f8 f9 f10 f11 f12 f13 f14
    simp only [Oper.gives]
    go_simp
    first | exact ⟨is_mk _ _, (Touch.refl [g]) _⟩ | exact ⟨is_mk _ _, (Touch.refl [g]) _, (fun _ _ _ _ h => h), (fun _ _ _ _ _ h => h)⟩
  case o17 =>
    intro vals wq hRq hNq hpq
    simp only [factsP, List.getD_cons_zero, List.getD_cons_succ] at hpq
    have f0 := hpq.1
    replace hpq := hpq.2
    have f1 := hpq.1
    replace hpq := hpq.2
    have f2 := hpq.1
    replace hpq := hpq.2
    have f3 := hpq.1
    replace hpq := hpq.2
    have f4 := hpq.1
    replace hpq := hpq.2
    have f5 := hpq.1
    replace hpq := hpq.2
    have f6 := hpq.1
    replace hpq := hpq.2
    have f7 := hpq.1
    replace hpq := hpq.2
    have f8 := hpq.1
    replace hpq := hpq.2
    have f9 := hpq.1
    replace hpq := hpq.2
    have f10 := hpq.1
    replace hpq := hpq.2
    have f11 := hpq.1
    replace hpq := hpq.2
    have f12 := hpq.1
    replace hpq := hpq.2
    have f13 := hpq.1
    replace hpq := hpq.2
    have f14 := hpq.1
    replace hpq := hpq.2
    have f15 := hpq.1
    replace hpq := hpq.2
    have f16 := hpq.1
    replace hpq := hpq.2
    clear hpq
    replace f0 : vals 0 = _ := f0
    replace f1 : vals 1 = _ := f1
    replace f2 : vals 2 = _ := f2
    replace f3 : vals 3 = _ := f3
    replace f4 : vals 4 = _ := f4
    replace f5 : vals 5 = _ := f5
    replace f6 : vals 6 = _ := f6
    replace f7 : vals 7 = _ := f7
    replace f8 : vals 8 = _ := f8
    replace f9 : vals 9 = _ := f9
    replace f10 : vals 10 = _ := f10
    replace f11 : vals 11 = _ := f11
    replace f12 : vals 12 = _ := f12
    replace f13 : vals 13 = _ := f13
    replace f14 : vals 14 = _ := f14
    replace f16 : vals 16 = _ := f16
    simp only [List.getD_cons_zero, List.getD_cons_succ, canonP, f0, f1, f2, f3, f4, f5, f6, f7, f8, f9, f10, f11, f12, f13, f14, f16]
    clear f0 f1 f2 f3 f4 f5 f6 f7 f8 f9 f10 f11 f12 f13 f14 f16
    have h15 : wq.heap[g]? = some (.cells (C.setIfInBounds j (.int .i64 b)) t) ∨ wq.heap[g]? = some (.cells ((C.setIfInBounds j (.int .i64 b)).setIfInBounds (j + 1) (.int .i64 y)) t) := f15
    have hN : wq.heap[g]? = some (.cells C t) ∨ wq.heap[g]? = some (.cells (C.setIfInBounds j (.int .i64 b)) t) := hNq (17, fun wx => wx.heap[g]? = some (.cells C t) ∨ wx.heap[g]? = some (.cells (C.setIfInBounds j (.int .i64 b)) t)) (.tail _ (.tail _ (.tail _ (List.Mem.head _)))) rfl
    have h1 : wq.heap[g]? = some (.cells (C.setIfInBounds j (.int .i64 b)) t) := by
      rcases h15 with h | h
      · exact h
      · rcases hN with h' | h'
        · exfalso; have e := (cell_at h j).symm.trans (cell_at h' j); rw [HCY.out, Array.getElem?_setIfInBounds_ne (by omega), Array.getElem?_setIfInBounds_self_of_lt HJL.out] at e; simp at e; omega
        · exact h'
    clear f15 h15 hN
    have hcc : wq.cell? ⟨g, j + 1, none⟩ = some (.int .i64 b) := (cell_at h1 (j + 1)).trans ((Array.getElem?_setIfInBounds_ne (by omega)).trans HCB.out)
    have hfz : wq.frozen? ⟨g, j + 1, none⟩ = false := frozen_at h1 _
    simp only [Oper.gives]
    go_simp
    exact ⟨heap_set h1 (j + 1) _, Touch.setCell _ (by simp) _, .inr (heap_set h1 (j + 1) _)⟩
  intro vals wz hRwz hfwz
  simp only [AllFacts] at hfwz
  have g0 := hfwz.1
  replace hfwz := hfwz.2
  have g1 := hfwz.1
  replace hfwz := hfwz.2
  have g2 := hfwz.1
  replace hfwz := hfwz.2
  have g3 := hfwz.1
  replace hfwz := hfwz.2
  have g4 := hfwz.1
  replace hfwz := hfwz.2
  have g5 := hfwz.1
  replace hfwz := hfwz.2
  have g6 := hfwz.1
  replace hfwz := hfwz.2
  have g7 := hfwz.1
  replace hfwz := hfwz.2
  have g8 := hfwz.1
  replace hfwz := hfwz.2
  have g9 := hfwz.1
  replace hfwz := hfwz.2
  have g10 := hfwz.1
  replace hfwz := hfwz.2
  have g11 := hfwz.1
  replace hfwz := hfwz.2
  have g12 := hfwz.1
  replace hfwz := hfwz.2
  have g13 := hfwz.1
  replace hfwz := hfwz.2
  have g14 := hfwz.1
  replace hfwz := hfwz.2
  have g15 := hfwz.1
  replace hfwz := hfwz.2
  have g16 := hfwz.1
  replace hfwz := hfwz.2
  have g17 := hfwz.1
  replace hfwz := hfwz.2
  clear hfwz
  replace g0 : vals 0 = _ := g0
  replace g1 : vals 1 = _ := g1
  replace g2 : vals 2 = _ := g2
  replace g3 : vals 3 = _ := g3
  replace g4 : vals 4 = _ := g4
  replace g5 : vals 5 = _ := g5
  replace g6 : vals 6 = _ := g6
  replace g7 : vals 7 = _ := g7
  replace g8 : vals 8 = _ := g8
  replace g9 : vals 9 = _ := g9
  replace g10 : vals 10 = _ := g10
  replace g11 : vals 11 = _ := g11
  replace g12 : vals 12 = _ := g12
  replace g13 : vals 13 = _ := g13
  replace g14 : vals 14 = _ := g14
  replace g16 : vals 16 = _ := g16
  simp only [canonP, Act.put, List.setIfInBounds_toArray, List.set_cons_succ, List.set_cons_zero, g0, g1, g2, g3, g4, g5, g6, g7, g8, g9, g10, g11, g12, g13, g14, g16]
  clear g0 g1 g2 g3 g4 g5 g6 g7 g8 g9 g10 g11 g12 g13 g14 g15 g16
  exact HK.out _ _ _ _ _ _ _ _ _ _ _ _ _ _ _ _ _ ((Touch.drew [g] W1).trans hRwz (fun k hk => .inl hk)) g17
#print axioms copied_reg14
end Go.Proofs.Ytlhhbkpocpnebaa
