/- maps.Clone of a map of a transaction. -/
import Derived.Test.YtnogajnoghjmhaaT4
import Derived.Test.YtnogajnoghjmhaaRegionN
set_option linter.unusedVariables false
set_option linter.unusedSimpArgs false
namespace Go.Proofs.Ytnogajnoghjmhaa
open Go.RowKit Go.Maps

theorem cloneB_ok {α : Type} {w : World} {K : EK α} {b N : Nat} {l : List (Int × α)} (h : MapIs w K b N l) : Calls Try.prog 44 #[.map (some b)] w fun e w' => e = .returned (.map (some w.heap.size)) ∧ MapIs w' K w.heap.size N l ∧ Grow w w' ∧ w'.heap.size = w.heap.size + 1 := by
  obtain ⟨D, ⟨es, clock, hb, F, hs, hD⟩, h2, h3⟩ := h
  have hcon := Go.Proofs.AnyW.maps_Clone Try.cloneA b es clock w hb
  refine Calls.mono (show Calls Try.prog _ _ _ _ from hcon) fun e w' ⟨he, hw⟩ => ?_
  subst hw
  exact ⟨he, ⟨D, ⟨es, clock, (MapKept.heap_alloc w _).1, F, hs, hD⟩, h2, h3⟩, Grow.alloc _ _, by simp⟩
theorem cloneU_ok {α : Type} {w : World} {K : EK α} {b N : Nat} {l : List (Int × α)} (h : MapIs w K b N l) : Calls Try.prog 45 #[.map (some b)] w fun e w' => e = .returned (.map (some w.heap.size)) ∧ MapIs w' K w.heap.size N l ∧ Grow w w' ∧ w'.heap.size = w.heap.size + 1 := by
  obtain ⟨D, ⟨es, clock, hb, F, hs, hD⟩, h2, h3⟩ := h
  have hcon := Go.Proofs.AnyW.maps_Clone Try.cloneB b es clock w hb
  refine Calls.mono (show Calls Try.prog _ _ _ _ from hcon) fun e w' ⟨he, hw⟩ => ?_
  subst hw
  exact ⟨he, ⟨D, ⟨es, clock, (MapKept.heap_alloc w _).1, F, hs, hD⟩, h2, h3⟩, Grow.alloc _ _, by simp⟩
noncomputable def clone_reg7Code : Code := regById 7 (codesOf (Try.f32.body.getD .skip))
set_option maxRecDepth 100000 in
set_option maxHeartbeats 4000000 in
theorem clone_reg7 (B A0 tB mc mo mf N : Nat) (lc : List (Int × Blk)) (lo lf : List (Int × Unit)) (W1 : World) (HB0 : Hid (A0 < W1.heap.size)) (HB : Hid (B < W1.heap.size ∧ B ≠ A0)) (HL0 : Hid (W1.cell? ⟨B, 0, none⟩ = some (.map (some mc)))) (HL1 : Hid (W1.cell? ⟨B, 1, none⟩ = some (.map (some mo)))) (HL2 : Hid (W1.cell? ⟨B, 2, none⟩ = some (.map (some mf))))
    (HM0 : Hid (MapIs W1 blkK mc N lc)) (HM1 : Hid (MapIs W1 unitK mo N lo)) (HM2 : Hid (MapIs W1 unitK mf N lf)) (HM0n : Hid (mc ≠ A0)) (HM1n : Hid (mo ≠ A0)) (HM2n : Hid (mf ≠ A0)) (HA : Hid (W1.heap[A0]? = some (.cells #[.map none, .map none, .map none, .pointer none] 64)))
    (s1 s2 s3 s6 s7 s8 s9 s10 s11 s12 s13 s14 s15 s16 s17 s18 s19 s20 s21 s22 s23 s24 s25 s26 s27 s28 s29 s30 s31 s32 s33 s34 s35 s36 s37 s38 s39 s40 s41 : Value) (Q : Exit → Act → World → Prop) (HK : Hid (∀ u25 u26 u27 u28 u29 u30 u31 u32 u33 u34 u35 u36 u37 u38 u39 u40 u41 wz, Touch [A0] W1 wz → wz.heap[A0]? = some (.cells #[.map (some W1.heap.size), .map (some (W1.heap.size + 1)), .map (some (W1.heap.size + 2)), .pointer (some ⟨tB, 0, none⟩)] 64) → MapIs wz blkK W1.heap.size N lc → MapIs wz unitK (W1.heap.size + 1) N lo → MapIs wz unitK (W1.heap.size + 2) N lf → Q .normal ⟨(.pointer (some ⟨B, 0, none⟩) :: s1 :: s2 :: s3 :: .pointer (some ⟨A0, 0, none⟩) :: .pointer (some ⟨tB, 0, none⟩) :: s6 :: s7 :: s8 :: s9 :: s10 :: s11 :: s12 :: s13 :: s14 :: s15 :: s16 :: s17 :: s18 :: s19 :: s20 :: s21 :: s22 :: s23 :: s24 :: u25 :: u26 :: u27 :: u28 :: u29 :: u30 :: u31 :: u32 :: u33 :: u34 :: u35 :: u36 :: u37 :: u38 :: u39 :: u40 :: u41 :: []).toArray, []⟩ wz)) : clone_reg7Code.wp Try.prog Q ⟨(.pointer (some ⟨B, 0, none⟩) :: s1 :: s2 :: s3 :: .pointer (some ⟨A0, 0, none⟩) :: .pointer (some ⟨tB, 0, none⟩) :: s6 :: s7 :: s8 :: s9 :: s10 :: s11 :: s12 :: s13 :: s14 :: s15 :: s16 :: s17 :: s18 :: s19 :: s20 :: s21 :: s22 :: s23 :: s24 :: s25 :: s26 :: s27 :: s28 :: s29 :: s30 :: s31 :: s32 :: s33 :: s34 :: s35 :: s36 :: s37 :: s38 :: s39 :: s40 :: s41 :: []).toArray, []⟩ W1 := by
  have HN0 := Lib.hid (show ∀ p ∈ ([(4, fun wx => wx.heap.size ≤ W1.heap.size), (9, fun wx => wx.heap.size ≤ W1.heap.size + 1), (14, fun wx => wx.heap.size ≤ W1.heap.size + 2), (17, fun wx => wx.heap[A0]? = some (.cells #[.map none, .map none, .map none, .pointer none] 64))] : List (Nat × (World → Prop))), p.2 W1.drew from fun p hp => by
    simp only [List.mem_cons, List.not_mem_nil, or_false] at hp
    rcases hp with rfl | rfl | rfl | rfl
    · exact Nat.le_refl _
    · exact Nat.le_succ _
    · exact Nat.le_add_right _ _
    · exact HA.out)
  conv => arg 2; whnf
  refine wp_region_factsN [17] [(4, fun wx => wx.heap.size ≤ W1.heap.size), (9, fun wx => wx.heap.size ≤ W1.heap.size + 1), (14, fun wx => wx.heap.size ≤ W1.heap.size + 2), (17, fun wx => wx.heap[A0]? = some (.cells #[.map none, .map none, .map none, .pointer none] 64))] (by kernel_rfl) [[], [(0, some 25)], [(1, some 26)], [(2, some 27)], [(3, some 28)], [], [(5, some 30)], [(6, some 31)], [(7, some 32)], [(4, some 29), (8, some 33)], [], [(10, some 35)], [(11, some 36)], [(12, some 37)], [(9, some 34), (13, some 38)], [], [(4, some 29), (9, some 34), (14, some 39), (15, some 40)], [(0, some 25), (1, some 26), (2, some 27), (3, some 28), (4, some 29), (5, some 30), (6, some 31), (7, some 32), (8, some 33), (9, some 34), (10, some 35), (11, some 36), (12, some 37), (13, some 38), (14, some 39), (15, some 40), (16, some 41)]] [(0, some 25), (1, some 26), (2, some 27), (3, some 28), (4, some 29), (5, some 30), (6, some 31), (7, some 32), (8, some 33), (9, some 34), (10, some 35), (11, some 36), (12, some 37), (13, some 38), (14, some 39), (15, some 40), (16, some 41), (17, none)] (by kernel_rfl) (by kernel_rfl) (by kernel_rfl) (Touch [A0]) (Touch.refl [A0]) (fun _ _ _ h h' => h.trans h' (fun i hi => .inl hi)) [Is (Value.pointer (some ⟨B, 0, none⟩)), Is (Value.pointer (some ⟨B, 0, none⟩)), Is (Value.pointer (some ⟨B, 0, none⟩)), Is (Value.map (some mc)), (fun v wx => v = .map (some (W1.heap.size + 0)) ∧ MapIs wx blkK (W1.heap.size + 0) N lc ∧ W1.heap.size + 1 ≤ wx.heap.size), Is (Value.pointer (some ⟨B, 0, none⟩)), Is (Value.pointer (some ⟨B, 0, none⟩)), Is (Value.pointer (some ⟨B, 1, none⟩)), Is (Value.map (some mo)), (fun v wx => v = .map (some (W1.heap.size + 1)) ∧ MapIs wx unitK (W1.heap.size + 1) N lo ∧ W1.heap.size + 2 ≤ wx.heap.size), Is (Value.pointer (some ⟨B, 0, none⟩)), Is (Value.pointer (some ⟨B, 0, none⟩)), Is (Value.pointer (some ⟨B, 2, none⟩)), Is (Value.map (some mf)), (fun v wx => v = .map (some (W1.heap.size + 2)) ∧ MapIs wx unitK (W1.heap.size + 2) N lf ∧ W1.heap.size + 3 ≤ wx.heap.size), Is (Value.pointer (some ⟨tB, 0, none⟩)), Is (Value.agg #[.map (some W1.heap.size), .map (some (W1.heap.size + 1)), .map (some (W1.heap.size + 2)), .pointer (some ⟨tB, 0, none⟩)]), (fun _ wx => wx.heap[A0]? = some (.cells #[.map (some W1.heap.size), .map (some (W1.heap.size + 1)), .map (some (W1.heap.size + 2)), .pointer (some ⟨tB, 0, none⟩)] 64))] rfl ⟨.inr (is_stab _ _), .inr (is_stab _ _), .inr (is_stab _ _), .inr (is_stab _ _), .inr (fun v wa wb hab h => ⟨h.1, h.2.1.kept hab (by intro hm; have h1 := HB0.out; have h2 := List.mem_singleton.1 hm; omega), Nat.le_trans h.2.2 hab.size⟩), .inr (is_stab _ _), .inr (is_stab _ _), .inr (is_stab _ _), .inr (is_stab _ _), .inr (fun v wa wb hab h => ⟨h.1, h.2.1.kept hab (by intro hm; have h1 := HB0.out; have h2 := List.mem_singleton.1 hm; omega), Nat.le_trans h.2.2 hab.size⟩), .inr (is_stab _ _), .inr (is_stab _ _), .inr (is_stab _ _), .inr (is_stab _ _), .inr (fun v wa wb hab h => ⟨h.1, h.2.1.kept hab (by intro hm; have h1 := HB0.out; have h2 := List.mem_singleton.1 hm; omega), Nat.le_trans h.2.2 hab.size⟩), .inr (is_stab _ _), .inr (is_stab _ _), .inl (by simp), trivial⟩ HN0.out ⟨?o0, ?o1, ?o2, ?o3, ?o4, ?o5, ?o6, ?o7, ?o8, ?o9, ?o10, ?o11, ?o12, ?o13, ?o14, ?o15, ?o16, ?o17, trivial⟩ ?_
  case o0 =>
    intro vals wq hRq hNq hpq
    simp only [List.getD_cons_zero, List.getD_cons_succ, canonP]
    simp only [Oper.gives]
    go_simp
    first | exact ⟨is_mk _ _, (Touch.refl [A0]) _⟩ | exact ⟨is_mk _ _, (Touch.refl [A0]) _, (fun _ _ _ _ h => h), (fun _ _ _ _ _ h => h)⟩
  case o1 =>
    intro vals wq hRq hNq hpq
    simp only [factsP, List.getD_cons_zero, List.getD_cons_succ] at hpq
    have f0 := hpq.1
    replace hpq := hpq.2
    clear hpq
    replace f0 : vals 0 = _ := f0
    simp only [List.getD_cons_zero, List.getD_cons_succ, canonP, f0]
    clear f0
    simp only [Oper.gives]
    go_simp
    first | exact ⟨is_mk _ _, (Touch.refl [A0]) _⟩ | exact ⟨is_mk _ _, (Touch.refl [A0]) _, (fun _ _ _ _ h => h), (fun _ _ _ _ _ h => h)⟩
  case o2 =>
    intro vals wq hRq hNq hpq
    simp only [factsP, List.getD_cons_zero, List.getD_cons_succ] at hpq
    have f1 := hpq.1
    replace hpq := hpq.2
    clear hpq
    replace f1 : vals 1 = _ := f1
    simp only [List.getD_cons_zero, List.getD_cons_succ, canonP, f1]
    clear f1
    simp only [Oper.gives]
    go_simp
    first | exact ⟨is_mk _ _, (Touch.refl [A0]) _⟩ | exact ⟨is_mk _ _, (Touch.refl [A0]) _, (fun _ _ _ _ h => h), (fun _ _ _ _ _ h => h)⟩
  case o3 =>
    intro vals wq hRq hNq hpq
    simp only [factsP, List.getD_cons_zero, List.getD_cons_succ] at hpq
    have f2 := hpq.1
    replace hpq := hpq.2
    clear hpq
    replace f2 : vals 2 = _ := f2
    simp only [List.getD_cons_zero, List.getD_cons_succ, canonP, f2]
    clear f2
    have hcc : wq.cell? ⟨B, 0, none⟩ = some (.map (some mc)) := (Touch.cell ((Touch.drew [A0] W1).trans hRq (fun k hk => .inl hk)) (a := ⟨B, 0, none⟩) HB.out.1 (by simpa using HB.out.2)).trans HL0.out
    simp only [Oper.gives]
    go_simp
    first | exact ⟨is_mk _ _, (Touch.refl [A0]) _⟩ | exact ⟨is_mk _ _, (Touch.refl [A0]) _, (fun _ _ _ _ h => h), (fun _ _ _ _ _ h => h)⟩
  case o4 =>
    intro vals wq hRq hNq hpq
    simp only [factsP, List.getD_cons_zero, List.getD_cons_succ] at hpq
    have f3 := hpq.1
    replace hpq := hpq.2
    clear hpq
    replace f3 : vals 3 = _ := f3
    simp only [List.getD_cons_zero, List.getD_cons_succ, canonP, f3]
    clear f3
    have hq := ((Touch.drew [A0] W1).trans hRq (fun k hk => .inl hk))
    have hn : wq.heap.size ≤ W1.heap.size + 0 := hNq (4, fun wx => wx.heap.size ≤ W1.heap.size) (List.Mem.head _) rfl
    have hs : wq.heap.size = W1.heap.size + 0 := by have := hq.size; omega
    have hm := HM0.out.kept hq (by simpa using HM0n.out)
    simp only [Oper.gives]
    go_simp
    refine (cloneB_ok hm).mono ?_
    rintro e w' ⟨rfl, h1, h2, h3⟩
    exact ⟨_, rfl, ⟨by rw [hs]; rfl, by rw [show wq.heap.size = W1.heap.size from hs] at h1; exact h1, by omega⟩, Touch.of_below h2, by omega, by omega, fun hx => (h2.block A0 (by have := HB0.out; omega)).trans hx⟩
  case o5 =>
    intro vals wq hRq hNq hpq
    simp only [List.getD_cons_zero, List.getD_cons_succ, canonP]
    simp only [Oper.gives]
    go_simp
    first | exact ⟨is_mk _ _, (Touch.refl [A0]) _⟩ | exact ⟨is_mk _ _, (Touch.refl [A0]) _, (fun _ _ _ _ h => h), (fun _ _ _ _ _ h => h)⟩
  case o6 =>
    intro vals wq hRq hNq hpq
    simp only [factsP, List.getD_cons_zero, List.getD_cons_succ] at hpq
    have f5 := hpq.1
    replace hpq := hpq.2
    clear hpq
    replace f5 : vals 5 = _ := f5
    simp only [List.getD_cons_zero, List.getD_cons_succ, canonP, f5]
    clear f5
    simp only [Oper.gives]
    go_simp
    first | exact ⟨is_mk _ _, (Touch.refl [A0]) _⟩ | exact ⟨is_mk _ _, (Touch.refl [A0]) _, (fun _ _ _ _ h => h), (fun _ _ _ _ _ h => h)⟩
  case o7 =>
    intro vals wq hRq hNq hpq
    simp only [factsP, List.getD_cons_zero, List.getD_cons_succ] at hpq
    have f6 := hpq.1
    replace hpq := hpq.2
    clear hpq
    replace f6 : vals 6 = _ := f6
    simp only [List.getD_cons_zero, List.getD_cons_succ, canonP, f6]
    clear f6
    simp only [Oper.gives]
    go_simp
    first | exact ⟨is_mk _ _, (Touch.refl [A0]) _⟩ | exact ⟨is_mk _ _, (Touch.refl [A0]) _, (fun _ _ _ _ h => h), (fun _ _ _ _ _ h => h)⟩
  case o8 =>
    intro vals wq hRq hNq hpq
    simp only [factsP, List.getD_cons_zero, List.getD_cons_succ] at hpq
    have f7 := hpq.1
    replace hpq := hpq.2
    clear hpq
    replace f7 : vals 7 = _ := f7
    simp only [List.getD_cons_zero, List.getD_cons_succ, canonP, f7]
    clear f7
    have hcc : wq.cell? ⟨B, 1, none⟩ = some (.map (some mo)) := (Touch.cell ((Touch.drew [A0] W1).trans hRq (fun k hk => .inl hk)) (a := ⟨B, 1, none⟩) HB.out.1 (by simpa using HB.out.2)).trans HL1.out
    simp only [Oper.gives]
    go_simp
    first | exact ⟨is_mk _ _, (Touch.refl [A0]) _⟩ | exact ⟨is_mk _ _, (Touch.refl [A0]) _, (fun _ _ _ _ h => h), (fun _ _ _ _ _ h => h)⟩
  case o9 =>
    intro vals wq hRq hNq hpq
    simp only [factsP, List.getD_cons_zero, List.getD_cons_succ] at hpq
    have f4 := hpq.1
    replace hpq := hpq.2
    have f8 := hpq.1
    replace hpq := hpq.2
    clear hpq
    replace f8 : vals 8 = _ := f8
    simp only [List.getD_cons_zero, List.getD_cons_succ, canonP, f8]
    clear f8
    have hq := ((Touch.drew [A0] W1).trans hRq (fun k hk => .inl hk))
    have hn : wq.heap.size ≤ W1.heap.size + 1 := hNq (9, fun wx => wx.heap.size ≤ W1.heap.size + 1) (.tail _ (List.Mem.head _)) rfl
    have hs : wq.heap.size = W1.heap.size + 1 := by have := hq.size; have := f4.2.2; omega
    have hm := HM1.out.kept hq (by simpa using HM1n.out)
    clear f4
    simp only [Oper.gives]
    go_simp
    refine (cloneU_ok hm).mono ?_
    rintro e w' ⟨rfl, h1, h2, h3⟩
    exact ⟨_, rfl, ⟨by rw [hs], by rw [← hs]; exact h1, by omega⟩, Touch.of_below h2, by omega, fun hx => (h2.block A0 (by have := HB0.out; omega)).trans hx⟩
  case o10 =>
    intro vals wq hRq hNq hpq
    simp only [List.getD_cons_zero, List.getD_cons_succ, canonP]
    simp only [Oper.gives]
    go_simp
    first | exact ⟨is_mk _ _, (Touch.refl [A0]) _⟩ | exact ⟨is_mk _ _, (Touch.refl [A0]) _, (fun _ _ _ _ h => h), (fun _ _ _ _ _ h => h)⟩
  case o11 =>
    intro vals wq hRq hNq hpq
    simp only [factsP, List.getD_cons_zero, List.getD_cons_succ] at hpq
    have f10 := hpq.1
    replace hpq := hpq.2
    clear hpq
    replace f10 : vals 10 = _ := f10
    simp only [List.getD_cons_zero, List.getD_cons_succ, canonP, f10]
    clear f10
    simp only [Oper.gives]
    go_simp
    first | exact ⟨is_mk _ _, (Touch.refl [A0]) _⟩ | exact ⟨is_mk _ _, (Touch.refl [A0]) _, (fun _ _ _ _ h => h), (fun _ _ _ _ _ h => h)⟩
  case o12 =>
    intro vals wq hRq hNq hpq
    simp only [factsP, List.getD_cons_zero, List.getD_cons_succ] at hpq
    have f11 := hpq.1
    replace hpq := hpq.2
    clear hpq
    replace f11 : vals 11 = _ := f11
    simp only [List.getD_cons_zero, List.getD_cons_succ, canonP, f11]
    clear f11
    simp only [Oper.gives]
    go_simp
    first | exact ⟨is_mk _ _, (Touch.refl [A0]) _⟩ | exact ⟨is_mk _ _, (Touch.refl [A0]) _, (fun _ _ _ _ h => h), (fun _ _ _ _ _ h => h)⟩
  case o13 =>
    intro vals wq hRq hNq hpq
    simp only [factsP, List.getD_cons_zero, List.getD_cons_succ] at hpq
    have f12 := hpq.1
    replace hpq := hpq.2
    clear hpq
    replace f12 : vals 12 = _ := f12
    simp only [List.getD_cons_zero, List.getD_cons_succ, canonP, f12]
    clear f12
    have hcc : wq.cell? ⟨B, 2, none⟩ = some (.map (some mf)) := (Touch.cell ((Touch.drew [A0] W1).trans hRq (fun k hk => .inl hk)) (a := ⟨B, 2, none⟩) HB.out.1 (by simpa using HB.out.2)).trans HL2.out
    simp only [Oper.gives]
    go_simp
    first | exact ⟨is_mk _ _, (Touch.refl [A0]) _⟩ | exact ⟨is_mk _ _, (Touch.refl [A0]) _, (fun _ _ _ _ h => h), (fun _ _ _ _ _ h => h)⟩
  case o14 =>
    intro vals wq hRq hNq hpq
    simp only [factsP, List.getD_cons_zero, List.getD_cons_succ] at hpq
    have f9 := hpq.1
    replace hpq := hpq.2
    have f13 := hpq.1
    replace hpq := hpq.2
    clear hpq
    replace f13 : vals 13 = _ := f13
    simp only [List.getD_cons_zero, List.getD_cons_succ, canonP, f13]
    clear f13
    have hq := ((Touch.drew [A0] W1).trans hRq (fun k hk => .inl hk))
    have hn : wq.heap.size ≤ W1.heap.size + 2 := hNq (14, fun wx => wx.heap.size ≤ W1.heap.size + 2) (.tail _ (.tail _ (List.Mem.head _))) rfl
    have hs : wq.heap.size = W1.heap.size + 2 := by have := hq.size; have := f9.2.2; omega
    have hm := HM2.out.kept hq (by simpa using HM2n.out)
    clear f9
    simp only [Oper.gives]
    go_simp
    refine (cloneU_ok hm).mono ?_
    rintro e w' ⟨rfl, h1, h2, h3⟩
    exact ⟨_, rfl, ⟨by rw [hs], by rw [← hs]; exact h1, by omega⟩, Touch.of_below h2, fun hx => by omega, fun hx => (h2.block A0 (by have := HB0.out; omega)).trans hx⟩
  case o15 =>
    intro vals wq hRq hNq hpq
    simp only [List.getD_cons_zero, List.getD_cons_succ, canonP]
    simp only [Oper.gives]
    go_simp
    first | exact ⟨is_mk _ _, (Touch.refl [A0]) _⟩ | exact ⟨is_mk _ _, (Touch.refl [A0]) _, (fun _ _ _ _ h => h), (fun _ _ _ _ _ h => h)⟩
  case o16 =>
    intro vals wq hRq hNq hpq
    simp only [factsP, List.getD_cons_zero, List.getD_cons_succ] at hpq
    have f4 := hpq.1
    replace hpq := hpq.2
    have f9 := hpq.1
    replace hpq := hpq.2
    have f14 := hpq.1
    replace hpq := hpq.2
    have f15 := hpq.1
    replace hpq := hpq.2
    clear hpq
    replace f15 : vals 15 = _ := f15
    simp only [List.getD_cons_zero, List.getD_cons_succ, canonP, f15]
    clear f15
    simp only [Oper.gives]
    go_simp
    first | exact ⟨is_mk _ _, (Touch.refl [A0]) _⟩ | exact ⟨is_mk _ _, (Touch.refl [A0]) _, (fun _ _ _ _ h => h), (fun _ _ _ _ _ h => h)⟩
  case o17 =>
    intro vals wq hRq hNq hpq
    simp only [factsP, List.getD_cons_zero, List.getD_cons_succ] at hpq
    have f0 := hpq.1
    replace hpq := hpq.2
    have f1 := hpq.1
    replace hpq := hpq.2
    have f2 := hpq.1
    replace hpq := hpq.2
    have f3 := hpq.1
    replace hpq := hpq.2
    have f4 := hpq.1
    replace hpq := hpq.2
    have f5 := hpq.1
    replace hpq := hpq.2
    have f6 := hpq.1
    replace hpq := hpq.2
    have f7 := hpq.1
    replace hpq := hpq.2
    have f8 := hpq.1
    replace hpq := hpq.2
    have f9 := hpq.1
    replace hpq := hpq.2
    have f10 := hpq.1
    replace hpq := hpq.2
    have f11 := hpq.1
    replace hpq := hpq.2
    have f12 := hpq.1
    replace hpq := hpq.2
    have f13 := hpq.1
    replace hpq := hpq.2
    have f14 := hpq.1
    replace hpq := hpq.2
    have f15 := hpq.1
    replace hpq := hpq.2
    have f16 := hpq.1
    replace hpq := hpq.2
    clear hpq
    replace f0 : vals 0 = _ := f0
    replace f1 : vals 1 = _ := f1
    replace f2 : vals 2 = _ := f2
    replace f3 : vals 3 = _ := f3
    replace f5 : vals 5 = _ := f5
    replace f6 : vals 6 = _ := f6
    replace f7 : vals 7 = _ := f7
    replace f8 : vals 8 = _ := f8
    replace f10 : vals 10 = _ := f10
    replace f11 : vals 11 = _ := f11
    replace f12 : vals 12 = _ := f12
    replace f13 : vals 13 = _ := f13
    replace f15 : vals 15 = _ := f15
    replace f16 : vals 16 = _ := f16
    simp only [List.getD_cons_zero, List.getD_cons_succ, canonP, f0, f1, f2, f3, f5, f6, f7, f8, f10, f11, f12, f13, f15, f16]
    clear f0 f1 f2 f3 f5 f6 f7 f8 f10 f11 f12 f13 f15 f16
    have h0 : wq.heap[A0]? = some (.cells #[.map none, .map none, .map none, .pointer none] 64) := hNq (17, fun wx => wx.heap[A0]? = some (.cells #[.map none, .map none, .map none, .pointer none] 64)) (.tail _ (.tail _ (.tail _ (List.Mem.head _)))) rfl
    have k0 : wq.cell? ⟨A0, 0, none⟩ = some (.map none) := cell_at h0 0
    have k1 : wq.cell? ⟨A0, 1, none⟩ = some (.map none) := cell_at h0 1
    have k2 : wq.cell? ⟨A0, 2, none⟩ = some (.map none) := cell_at h0 2
    have k3 : wq.cell? ⟨A0, 3, none⟩ = some (.pointer none) := cell_at h0 3
    have q0 : wq.frozen? ⟨A0, 0, none⟩ = false := frozen_at h0 0
    have q1 : wq.frozen? ⟨A0, 1, none⟩ = false := frozen_at h0 1
    have q2 : wq.frozen? ⟨A0, 2, none⟩ = false := frozen_at h0 2
    have q3 : wq.frozen? ⟨A0, 3, none⟩ = false := frozen_at h0 3
    clear f4 f9 f14
    simp only [Oper.gives]
    go_simp
    exact ⟨(heap_set (heap_set (heap_set (heap_set h0 0 (.map (some W1.heap.size))) 1 (.map (some (W1.heap.size + 1)))) 2 (.map (some (W1.heap.size + 2)))) 3 (.pointer (some ⟨tB, 0, none⟩))), (Touch.trans (S' := [A0]) (Touch.trans (S' := [A0]) (Touch.trans (S' := [A0]) (Touch.setCell (S := [A0]) wq (a := ⟨A0, 0, none⟩) (by simp) (.map (some W1.heap.size))) (Touch.setCell (S := [A0]) (wq.setCell ⟨A0, 0, none⟩ (.map (some W1.heap.size))) (a := ⟨A0, 1, none⟩) (by simp) (.map (some (W1.heap.size + 1)))) (fun i hi => .inl hi)) (Touch.setCell (S := [A0]) ((wq.setCell ⟨A0, 0, none⟩ (.map (some W1.heap.size))).setCell ⟨A0, 1, none⟩ (.map (some (W1.heap.size + 1)))) (a := ⟨A0, 2, none⟩) (by simp) (.map (some (W1.heap.size + 2)))) (fun i hi => .inl hi)) (Touch.setCell (S := [A0]) (((wq.setCell ⟨A0, 0, none⟩ (.map (some W1.heap.size))).setCell ⟨A0, 1, none⟩ (.map (some (W1.heap.size + 1)))).setCell ⟨A0, 2, none⟩ (.map (some (W1.heap.size + 2)))) (a := ⟨A0, 3, none⟩) (by simp) (.pointer (some ⟨tB, 0, none⟩))) (fun i hi => .inl hi))⟩
  intro vals wz hRwz hfwz
  simp only [AllFacts] at hfwz
  have g0 := hfwz.1
  replace hfwz := hfwz.2
  have g1 := hfwz.1
  replace hfwz := hfwz.2
  have g2 := hfwz.1
  replace hfwz := hfwz.2
  have g3 := hfwz.1
  replace hfwz := hfwz.2
  have g4 := hfwz.1
  replace hfwz := hfwz.2
  have g5 := hfwz.1
  replace hfwz := hfwz.2
  have g6 := hfwz.1
  replace hfwz := hfwz.2
  have g7 := hfwz.1
  replace hfwz := hfwz.2
  have g8 := hfwz.1
  replace hfwz := hfwz.2
  have g9 := hfwz.1
  replace hfwz := hfwz.2
  have g10 := hfwz.1
  replace hfwz := hfwz.2
  have g11 := hfwz.1
  replace hfwz := hfwz.2
  have g12 := hfwz.1
  replace hfwz := hfwz.2
  have g13 := hfwz.1
  replace hfwz := hfwz.2
  have g14 := hfwz.1
  replace hfwz := hfwz.2
  have g15 := hfwz.1
  replace hfwz := hfwz.2
  have g16 := hfwz.1
  replace hfwz := hfwz.2
  have g17 := hfwz.1
  replace hfwz := hfwz.2
  clear hfwz
  replace g0 : vals 0 = _ := g0
  replace g1 : vals 1 = _ := g1
  replace g2 : vals 2 = _ := g2
  replace g3 : vals 3 = _ := g3
  replace g5 : vals 5 = _ := g5
  replace g6 : vals 6 = _ := g6
  replace g7 : vals 7 = _ := g7
  replace g8 : vals 8 = _ := g8
  replace g10 : vals 10 = _ := g10
  replace g11 : vals 11 = _ := g11
  replace g12 : vals 12 = _ := g12
  replace g13 : vals 13 = _ := g13
  replace g15 : vals 15 = _ := g15
  replace g16 : vals 16 = _ := g16
  simp only [canonP, Act.put, List.setIfInBounds_toArray, List.set_cons_succ, List.set_cons_zero, g0, g1, g2, g3, g5, g6, g7, g8, g10, g11, g12, g13, g15, g16]
  clear g0 g1 g2 g3 g5 g6 g7 g8 g10 g11 g12 g13 g15 g16
  exact HK.out _ _ _ _ _ _ _ _ _ _ _ _ _ _ _ _ _ _ ((Touch.drew [A0] W1).trans hRwz (fun k hk => .inl hk)) g17 g4.2.1 g9.2.1 g14.2.1
#print axioms clone_reg7
end Go.Proofs.Ytnogajnoghjmhaa
