/- SameCopies, SameBlocks: of the same. -/
import Derived.Test.YtlhhbkpocpnebaaP11
import Derived.Test.YtlhhbkpocpnebaaOps
set_option linter.unusedVariables false
set_option linter.unusedSimpArgs false
namespace Go.Proofs.Ytlhhbkpocpnebaa
open Go.RowKit Go.Maps
set_option maxRecDepth 100000 in
set_option maxHeartbeats 4000000 in
theorem samec_ok {w : World} {va vb : Value} {l : List Cp} (ha : CRow w va l) (hb : CRow w vb l) (hl : l.length ≤ 1000000) :
    Calls Try.prog 16 #[va, vb] w fun e w' => e = .returned (.bool true) ∧ Grow w w' := by
  obtain ⟨a, ca, hva⟩ := CRow.len ha
  obtain ⟨b, cb, hvb⟩ := CRow.len hb
  have HRA := Lib.hid ha
  have HRB := Lib.hid hb
  obtain ⟨n, hn⟩ : ∃ n, n = l.length := ⟨_, rfl⟩
  have HN := Lib.hid hn
  rw [← hn] at hva hvb hl
  subst hva hvb
  clear ha hb hn
  go_enter Try.func16, Try.ntmps16
  go_wp2_with fail
  go_loopw [5] (fun ti wr => ∃ i : Nat, i ≤ n ∧ ti = .int .i64 (i : Int) ∧ Hid (Touch [] w wr)) (fun ti _ => n - (intOf ti).toNat)
  case atStart => exact ⟨0, by omega, rfl, Lib.hid (Touch.refl _ _)⟩
  case round =>
    obtain ⟨i, hi, rfl, HT⟩ := hrel
    by_cases hlt : i < n
    · obtain ⟨x, hx⟩ : ∃ x, l[i]? = some x := ⟨l[i]'(by rw [← HN.out]; exact hlt), by simp⟩
      obtain ⟨ga, ca', hv, _⟩ := HRA.out.open_ (by rw [← HN.out]; omega)
      rw [← HN.out] at hv
      cases hv
      obtain ⟨gb, cb', hv, _⟩ := HRB.out.open_ (by rw [← HN.out]; omega)
      rw [← HN.out] at hv
      cases hv
      have HGX := Lib.hid (show (l.map ccell)[i]? = some (ccell x) by rw [List.getElem?_map, hx]; rfl)
      have HXl := Lib.hid (HRA.out.blk (List.mem_of_getElem? hx))
      have HSz := Lib.hid (csizeL HXl.out)
      have HNE := Lib.hid (show ∀ w, (binOp .neq _ (.agg (ccell x).toArray) (.agg (ccell x).toArray)).run Try.prog w = .ok (.bool false) w from fun w => by rw [neqC x x HXl.out HXl.out w, decide_eq_true rfl]; rfl)
      have HRa := Lib.hid (Row.kept HRA.out (HT.out.trans (Touch.drew [] wr) (by simp)) (by simp))
      have HRb := Lib.hid (Row.kept HRB.out (HT.out.trans (Touch.drew [] wr) (by simp)) (by simp))
      have HB0 := Lib.hid (show (0 : Int) ≤ (i : Int) by omega)
      have HB1 := Lib.hid (show (i : Int) < (n : Int) by omega)
      clear hx
      go_wp2_with fail
      refine wp_region_facts (by kernel_rfl) [[], [], [(0, some 17), (1, some 18)], [(2, some 19)], [], [], [(4, some 21), (5, some 22)], [(6, some 23)], [(3, some 20), (7, some 24)]] [(0, some 17), (1, some 18), (2, some 19), (3, some 20), (4, some 21), (5, some 22), (6, some 23), (7, some 24), (8, some 25)] (by kernel_rfl) (by kernel_rfl) (by kernel_rfl) (Touch []) (Touch.refl []) (fun _ _ _ h h' => h.trans h' (fun i hi => .inl hi)) [Is (Value.slice (some ⟨ga, 0, none⟩) n ca), Is (Value.int .i64 (i : Int)), Is (Value.pointer (some ⟨ga, i * 257, none⟩)), Is (Value.agg (ccell x).toArray), Is (Value.slice (some ⟨gb, 0, none⟩) n cb), Is (Value.int .i64 (i : Int)), Is (Value.pointer (some ⟨gb, i * 257, none⟩)), Is (Value.agg (ccell x).toArray), Is (Value.bool false)] rfl ⟨is_stab _ _, is_stab _ _, is_stab _ _, is_stab _ _, is_stab _ _, is_stab _ _, is_stab _ _, is_stab _ _, is_stab _ _, trivial⟩ ⟨?o0, ?o1, ?o2, ?o3, ?o4, ?o5, ?o6, ?o7, ?o8, trivial⟩ ?_
      case o0 =>
        intro vals wq hRq hpq
        simp only [List.getD_cons_zero, List.getD_cons_succ, canonP]
        simp only [Oper.gives]
        go_simp
        exact ⟨is_mk _ _, (Touch.refl []) _⟩
      case o1 =>
        intro vals wq hRq hpq
        simp only [List.getD_cons_zero, List.getD_cons_succ, canonP]
        simp only [Oper.gives]
        go_simp
        exact ⟨is_mk _ _, (Touch.refl []) _⟩
      case o2 =>
        intro vals wq hRq hpq
        simp only [factsP, List.getD_cons_zero, List.getD_cons_succ] at hpq
        have f0 := hpq.1
        replace hpq := hpq.2
        have f1 := hpq.1
        replace hpq := hpq.2
        clear hpq
        replace f0 : vals 0 = _ := f0
        replace f1 : vals 1 = _ := f1
        simp only [List.getD_cons_zero, List.getD_cons_succ, canonP, f0, f1]
        clear f0 f1
        have b0 := HB0.out
        have b1 := HB1.out
        simp only [Oper.gives]
        go_simp
        exact ⟨is_mk _ _, Touch.refl _ _⟩
      case o3 =>
        intro vals wq hRq hpq
        simp only [factsP, List.getD_cons_zero, List.getD_cons_succ] at hpq
        have f2 := hpq.1
        replace hpq := hpq.2
        clear hpq
        replace f2 : vals 2 = _ := f2
        simp only [List.getD_cons_zero, List.getD_cons_succ, canonP, f2]
        clear f2
        have hr := Row.kept HRa.out hRq (by simp)
        rw [if_pos (by rfl)]
        exact gives_load_mid 40 _ rfl ga (i * 257) rfl (ccell x) _ (Row.range hr HGX.out) Try.underlying40 rfl HSz.out ⟨is_mk _ _, Touch.refl _ _⟩
      case o4 =>
        intro vals wq hRq hpq
        simp only [List.getD_cons_zero, List.getD_cons_succ, canonP]
        simp only [Oper.gives]
        go_simp
        exact ⟨is_mk _ _, (Touch.refl []) _⟩
      case o5 =>
        intro vals wq hRq hpq
        simp only [List.getD_cons_zero, List.getD_cons_succ, canonP]
        simp only [Oper.gives]
        go_simp
        exact ⟨is_mk _ _, (Touch.refl []) _⟩
      case o6 =>
        intro vals wq hRq hpq
        simp only [factsP, List.getD_cons_zero, List.getD_cons_succ] at hpq
        have f4 := hpq.1
        replace hpq := hpq.2
        have f5 := hpq.1
        replace hpq := hpq.2
        clear hpq
        replace f4 : vals 4 = _ := f4
        replace f5 : vals 5 = _ := f5
        simp only [List.getD_cons_zero, List.getD_cons_succ, canonP, f4, f5]
        clear f4 f5
        have b0 := HB0.out
        have b1 := HB1.out
        simp only [Oper.gives]
        go_simp
        exact ⟨is_mk _ _, Touch.refl _ _⟩
      case o7 =>
        intro vals wq hRq hpq
        simp only [factsP, List.getD_cons_zero, List.getD_cons_succ] at hpq
        have f6 := hpq.1
        replace hpq := hpq.2
        clear hpq
        replace f6 : vals 6 = _ := f6
        simp only [List.getD_cons_zero, List.getD_cons_succ, canonP, f6]
        clear f6
        have hr := Row.kept HRb.out hRq (by simp)
        rw [if_pos (by rfl)]
        exact gives_load_mid 40 _ rfl gb (i * 257) rfl (ccell x) _ (Row.range hr HGX.out) Try.underlying40 rfl HSz.out ⟨is_mk _ _, Touch.refl _ _⟩
      case o8 =>
        intro vals wq hRq hpq
        simp only [factsP, List.getD_cons_zero, List.getD_cons_succ] at hpq
        have f3 := hpq.1
        replace hpq := hpq.2
        have f7 := hpq.1
        replace hpq := hpq.2
        clear hpq
        replace f3 : vals 3 = _ := f3
        replace f7 : vals 7 = _ := f7
        simp only [List.getD_cons_zero, List.getD_cons_succ, canonP, f3, f7]
        clear f3 f7
        rw [if_pos (by rfl)]
        exact gives_binOp .neq 40 _ _ _ rfl _ _ rfl rfl (gC _ _ _ _ _ wq) (HNE.out wq) ⟨is_mk _ _, Touch.refl _ _⟩
      intro vals wz hRwz hfwz
      simp only [AllFacts] at hfwz
      have g0 := hfwz.1
      replace hfwz := hfwz.2
      have g1 := hfwz.1
      replace hfwz := hfwz.2
      have g2 := hfwz.1
      replace hfwz := hfwz.2
      have g3 := hfwz.1
      replace hfwz := hfwz.2
      have g4 := hfwz.1
      replace hfwz := hfwz.2
      have g5 := hfwz.1
      replace hfwz := hfwz.2
      have g6 := hfwz.1
      replace hfwz := hfwz.2
      have g7 := hfwz.1
      replace hfwz := hfwz.2
      have g8 := hfwz.1
      replace hfwz := hfwz.2
      clear hfwz
      replace g0 : vals 0 = _ := g0
      replace g1 : vals 1 = _ := g1
      replace g2 : vals 2 = _ := g2
      replace g3 : vals 3 = _ := g3
      replace g4 : vals 4 = _ := g4
      replace g5 : vals 5 = _ := g5
      replace g6 : vals 6 = _ := g6
      replace g7 : vals 7 = _ := g7
      replace g8 : vals 8 = _ := g8
      simp only [canonP, Act.put, List.setIfInBounds_toArray, List.set_cons_succ, List.set_cons_zero, g0, g1, g2, g3, g4, g5, g6, g7, g8]
      clear g0 g1 g2 g3 g4 g5 g6 g7 g8
      have HT2 := Lib.hid ((HT.out.trans (Touch.drew [] wr) (by simp)).trans hRwz (by simp))
      clear hRwz
      go_wp2_with fail
      go_roundw
      case rel => exact ⟨i + 1, by omega, by go_num, HT2⟩
      case measure => simp [intOf]; omega
    · go_wp2_with fail
      go_ret
      exact ⟨rfl, HT.out.below (Nat.le_refl _) (by simp)⟩
#print axioms samec_ok
set_option maxRecDepth 100000 in
set_option maxHeartbeats 4000000 in
theorem sameb_ok {w : World} {va vb : Value} {l : List Blk} (ha : BRow w va l) (hb : BRow w vb l) (hl : l.length ≤ 1000000) :
    Calls Try.prog 18 #[va, vb] w fun e w' => e = .returned (.bool true) ∧ Grow w w' := by
  obtain ⟨a, ca, hva⟩ := BRow.len ha
  obtain ⟨b, cb, hvb⟩ := BRow.len hb
  have HRA := Lib.hid ha
  have HRB := Lib.hid hb
  obtain ⟨n, hn⟩ : ∃ n, n = l.length := ⟨_, rfl⟩
  have HN := Lib.hid hn
  rw [← hn] at hva hvb hl
  subst hva hvb
  clear ha hb hn
  go_enter Try.func18, Try.ntmps18
  go_wp2_with fail
  go_loopw [5] (fun ti wr => ∃ i : Nat, i ≤ n ∧ ti = .int .i64 (i : Int) ∧ Hid (Touch [] w wr)) (fun ti _ => n - (intOf ti).toNat)
  case atStart => exact ⟨0, by omega, rfl, Lib.hid (Touch.refl _ _)⟩
  case round =>
    obtain ⟨i, hi, rfl, HT⟩ := hrel
    by_cases hlt : i < n
    · obtain ⟨x, hx⟩ : ∃ x, l[i]? = some x := ⟨l[i]'(by rw [← HN.out]; exact hlt), by simp⟩
      obtain ⟨ga, ca', hv, _⟩ := HRA.out.open_ (by rw [← HN.out]; omega)
      rw [← HN.out] at hv
      cases hv
      obtain ⟨gb, cb', hv, _⟩ := HRB.out.open_ (by rw [← HN.out]; omega)
      rw [← HN.out] at hv
      cases hv
      have HGX := Lib.hid (show (l.map bc)[i]? = some (bc x) by rw [List.getElem?_map, hx]; rfl)
      have HXl := Lib.hid (HRA.out.blk (List.mem_of_getElem? hx))
      have HSz := Lib.hid (bsizeL HXl.out)
      have HNE := Lib.hid (show ∀ w, (binOp .neq _ (.agg (bc x).toArray) (.agg (bc x).toArray)).run Try.prog w = .ok (.bool false) w from fun w => by rw [neqB x x HXl.out HXl.out w, decide_eq_true rfl]; rfl)
      have HRa := Lib.hid (Row.kept HRA.out (HT.out.trans (Touch.drew [] wr) (by simp)) (by simp))
      have HRb := Lib.hid (Row.kept HRB.out (HT.out.trans (Touch.drew [] wr) (by simp)) (by simp))
      have HB0 := Lib.hid (show (0 : Int) ≤ (i : Int) by omega)
      have HB1 := Lib.hid (show (i : Int) < (n : Int) by omega)
      clear hx
      go_wp2_with fail
      refine wp_region_facts (by kernel_rfl) [[], [], [(0, some 17), (1, some 18)], [(2, some 19)], [], [], [(4, some 21), (5, some 22)], [(6, some 23)], [(3, some 20), (7, some 24)]] [(0, some 17), (1, some 18), (2, some 19), (3, some 20), (4, some 21), (5, some 22), (6, some 23), (7, some 24), (8, some 25)] (by kernel_rfl) (by kernel_rfl) (by kernel_rfl) (Touch []) (Touch.refl []) (fun _ _ _ h h' => h.trans h' (fun i hi => .inl hi)) [Is (Value.slice (some ⟨ga, 0, none⟩) n ca), Is (Value.int .i64 (i : Int)), Is (Value.pointer (some ⟨ga, i * 256, none⟩)), Is (Value.agg (bc x).toArray), Is (Value.slice (some ⟨gb, 0, none⟩) n cb), Is (Value.int .i64 (i : Int)), Is (Value.pointer (some ⟨gb, i * 256, none⟩)), Is (Value.agg (bc x).toArray), Is (Value.bool false)] rfl ⟨is_stab _ _, is_stab _ _, is_stab _ _, is_stab _ _, is_stab _ _, is_stab _ _, is_stab _ _, is_stab _ _, is_stab _ _, trivial⟩ ⟨?o0, ?o1, ?o2, ?o3, ?o4, ?o5, ?o6, ?o7, ?o8, trivial⟩ ?_
      case o0 =>
        intro vals wq hRq hpq
        simp only [List.getD_cons_zero, List.getD_cons_succ, canonP]
        simp only [Oper.gives]
        go_simp
        exact ⟨is_mk _ _, (Touch.refl []) _⟩
      case o1 =>
        intro vals wq hRq hpq
        simp only [List.getD_cons_zero, List.getD_cons_succ, canonP]
        simp only [Oper.gives]
        go_simp
        exact ⟨is_mk _ _, (Touch.refl []) _⟩
      case o2 =>
        intro vals wq hRq hpq
        simp only [factsP, List.getD_cons_zero, List.getD_cons_succ] at hpq
        have f0 := hpq.1
        replace hpq := hpq.2
        have f1 := hpq.1
        replace hpq := hpq.2
        clear hpq
        replace f0 : vals 0 = _ := f0
        replace f1 : vals 1 = _ := f1
        simp only [List.getD_cons_zero, List.getD_cons_succ, canonP, f0, f1]
        clear f0 f1
        have b0 := HB0.out
        have b1 := HB1.out
        simp only [Oper.gives]
        go_simp
        exact ⟨is_mk _ _, Touch.refl _ _⟩
      case o3 =>
        intro vals wq hRq hpq
        simp only [factsP, List.getD_cons_zero, List.getD_cons_succ] at hpq
        have f2 := hpq.1
        replace hpq := hpq.2
        clear hpq
        replace f2 : vals 2 = _ := f2
        simp only [List.getD_cons_zero, List.getD_cons_succ, canonP, f2]
        clear f2
        have hr := Row.kept HRa.out hRq (by simp)
        rw [if_pos (by rfl)]
        exact gives_load_mid 29 _ rfl ga (i * 256) rfl (bc x) _ (Row.range hr HGX.out) Try.underlying29 rfl HSz.out ⟨is_mk _ _, Touch.refl _ _⟩
      case o4 =>
        intro vals wq hRq hpq
        simp only [List.getD_cons_zero, List.getD_cons_succ, canonP]
        simp only [Oper.gives]
        go_simp
        exact ⟨is_mk _ _, (Touch.refl []) _⟩
      case o5 =>
        intro vals wq hRq hpq
        simp only [List.getD_cons_zero, List.getD_cons_succ, canonP]
        simp only [Oper.gives]
        go_simp
        exact ⟨is_mk _ _, (Touch.refl []) _⟩
      case o6 =>
        intro vals wq hRq hpq
        simp only [factsP, List.getD_cons_zero, List.getD_cons_succ] at hpq
        have f4 := hpq.1
        replace hpq := hpq.2
        have f5 := hpq.1
        replace hpq := hpq.2
        clear hpq
        replace f4 : vals 4 = _ := f4
        replace f5 : vals 5 = _ := f5
        simp only [List.getD_cons_zero, List.getD_cons_succ, canonP, f4, f5]
        clear f4 f5
        have b0 := HB0.out
        have b1 := HB1.out
        simp only [Oper.gives]
        go_simp
        exact ⟨is_mk _ _, Touch.refl _ _⟩
      case o7 =>
        intro vals wq hRq hpq
        simp only [factsP, List.getD_cons_zero, List.getD_cons_succ] at hpq
        have f6 := hpq.1
        replace hpq := hpq.2
        clear hpq
        replace f6 : vals 6 = _ := f6
        simp only [List.getD_cons_zero, List.getD_cons_succ, canonP, f6]
        clear f6
        have hr := Row.kept HRb.out hRq (by simp)
        rw [if_pos (by rfl)]
        exact gives_load_mid 29 _ rfl gb (i * 256) rfl (bc x) _ (Row.range hr HGX.out) Try.underlying29 rfl HSz.out ⟨is_mk _ _, Touch.refl _ _⟩
      case o8 =>
        intro vals wq hRq hpq
        simp only [factsP, List.getD_cons_zero, List.getD_cons_succ] at hpq
        have f3 := hpq.1
        replace hpq := hpq.2
        have f7 := hpq.1
        replace hpq := hpq.2
        clear hpq
        replace f3 : vals 3 = _ := f3
        replace f7 : vals 7 = _ := f7
        simp only [List.getD_cons_zero, List.getD_cons_succ, canonP, f3, f7]
        clear f3 f7
        rw [if_pos (by rfl)]
        exact gives_binOp .neq 29 _ _ _ rfl _ _ rfl rfl (gB _ _ _ _ _ wq) (HNE.out wq) ⟨is_mk _ _, Touch.refl _ _⟩
      intro vals wz hRwz hfwz
      simp only [AllFacts] at hfwz
      have g0 := hfwz.1
      replace hfwz := hfwz.2
      have g1 := hfwz.1
      replace hfwz := hfwz.2
      have g2 := hfwz.1
      replace hfwz := hfwz.2
      have g3 := hfwz.1
      replace hfwz := hfwz.2
      have g4 := hfwz.1
      replace hfwz := hfwz.2
      have g5 := hfwz.1
      replace hfwz := hfwz.2
      have g6 := hfwz.1
      replace hfwz := hfwz.2
      have g7 := hfwz.1
      replace hfwz := hfwz.2
      have g8 := hfwz.1
      replace hfwz := hfwz.2
      clear hfwz
      replace g0 : vals 0 = _ := g0
      replace g1 : vals 1 = _ := g1
      replace g2 : vals 2 = _ := g2
      replace g3 : vals 3 = _ := g3
      replace g4 : vals 4 = _ := g4
      replace g5 : vals 5 = _ := g5
      replace g6 : vals 6 = _ := g6
      replace g7 : vals 7 = _ := g7
      replace g8 : vals 8 = _ := g8
      simp only [canonP, Act.put, List.setIfInBounds_toArray, List.set_cons_succ, List.set_cons_zero, g0, g1, g2, g3, g4, g5, g6, g7, g8]
      clear g0 g1 g2 g3 g4 g5 g6 g7 g8
      have HT2 := Lib.hid ((HT.out.trans (Touch.drew [] wr) (by simp)).trans hRwz (by simp))
      clear hRwz
      go_wp2_with fail
      go_roundw
      case rel => exact ⟨i + 1, by omega, by go_num, HT2⟩
      case measure => simp [intOf]; omega
    · go_wp2_with fail
      go_ret
      exact ⟨rfl, HT.out.below (Nat.le_refl _) (by simp)⟩
#print axioms sameb_ok
end Go.Proofs.Ytlhhbkpocpnebaa
