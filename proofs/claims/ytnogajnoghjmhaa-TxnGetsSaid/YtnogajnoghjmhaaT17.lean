/- Has, SameTrans. -/
import Derived.Test.YtnogajnoghjmhaaEq
set_option linter.unusedVariables false
set_option linter.unusedSimpArgs false
namespace Go.Proofs.Ytnogajnoghjmhaa
open Go.RowKit Go.Maps

theorem has_ok {w : World} {v : Value} {zs : List Int} (h : IRow w v zs) (hl : zs.length ≤ 1000000) (b : Int) : Calls Try.prog 19 #[v, .int .i64 b] w fun e w' => e = .returned (.bool (decide (b ∈ zs))) ∧ w = w' := by
  have HR := Lib.hid h
  obtain ⟨a, ca, hv⟩ := IRow.len h
  obtain ⟨n, hn⟩ : ∃ n, n = zs.length := ⟨_, rfl⟩
  have HN := Lib.hid hn
  rw [← hn] at hv hl
  subst hv
  obtain ⟨r, hr⟩ : ∃ r, decide (b ∈ zs) = r := ⟨_, rfl⟩
  rw [hr]
  have HRr := Lib.hid hr
  clear h hn hr
  go_enter Try.func19, Try.ntmps19
  go_wp2_with fail
  go_loopw [5] (fun t5 wr => ∃ i : Nat, i ≤ n ∧ t5 = .int .i64 (i : Int) ∧ Hid (∀ z ∈ zs.take i, z ≠ b) ∧ wr = w) (fun t5 _ => n - (intOfV t5).toNat)
  case atStart => exact ⟨0, by omega, rfl, Lib.hid (by simp), rfl⟩
  case round =>
    obtain ⟨i, hi, rfl, HF, rfl⟩ := hrel
    by_cases hlt : i < n
    · obtain ⟨z, hz⟩ : ∃ z, zs[i]? = some z := ⟨zs[i]'(by rw [← HN.out]; exact hlt), by simp⟩
      obtain ⟨ga, ca', hv, _⟩ := HR.out.open_ (by rw [← HN.out]; omega)
      rw [← HN.out] at hv
      cases hv
      have y0 := IRow.cell HR.out hz
      have b0 : (0 : Int) ≤ (i : Int) := by omega
      have b1 : (i : Int) < (n : Int) := by omega
      have HZ := Lib.hid hz
      clear hz
      by_cases e : z = b
      · have d0 : (z == b) = true := by simpa using e
        have HM := Lib.hid (show r = true from HRr.out.symm.trans (decide_eq_true (e ▸ List.mem_of_getElem? HZ.out)))
        go_wp2_with fail
        go_ret
        simp [HM.out]
      · have d0 : (z == b) = false := by simpa using e
        have HF2 := Lib.hid (show ∀ z ∈ zs.take (i + 1), z ≠ b by
          rw [List.take_add_one, HZ.out]
          intro y hy
          rcases List.mem_append.1 hy with hy | hy
          · exact HF.out y hy
          · simp at hy; rw [hy]; exact e)
        go_wp2_with fail
        go_roundw
        case rel => exact ⟨i + 1, by omega, by go_num, HF2, trivial⟩
        case measure => simp [intOfV]; omega
    · obtain rfl : i = n := by omega
      have HM := Lib.hid (show r = false from HRr.out.symm.trans (decide_eq_false (fun hm => HF.out b (by rw [HN.out, List.take_length]; exact hm) rfl)))
      go_wp2_with fail
      go_ret
      simp [HM.out]
noncomputable def st_reg6Code : Code := regById 6 (codesOf (Try.f29.body.getD .skip))
set_option maxRecDepth 100000 in
set_option maxHeartbeats 4000000 in
theorem st_reg6 (X2 X3 ga gb i n ca cb : Nat) (x : Cp) (l : List Cp) (W1 : World) (HB0 : Hid ((0 : Int) ≤ (i : Int))) (HB1 : Hid ((i : Int) < (n : Int))) (HCa : Hid (X2 < W1.heap.size ∧ W1.cell? ⟨X2, 1, none⟩ = some (.slice (some ⟨ga, 0, none⟩) n ca))) (HCb : Hid (X3 < W1.heap.size ∧ W1.cell? ⟨X3, 1, none⟩ = some (.slice (some ⟨gb, 0, none⟩) n cb))) (HRa : Hid (CRow W1 (.slice (some ⟨ga, 0, none⟩) n ca) l)) (HRb : Hid (CRow W1 (.slice (some ⟨gb, 0, none⟩) n cb) l)) (HGX : Hid ((l.map ccell)[i]? = some (ccell x))) (HSz : Hid ((Try.prog.info? 46).map (·.size) = some (ccell x).length)) (HNE : Hid (∀ w, (binOp .neq 46 (.agg (ccell x).toArray) (.agg (ccell x).toArray)).run Try.prog w = .ok (.bool false) w))
    (s0 s1 s4 s6 s7 s8 s9 s10 s11 s12 s13 s14 s15 s16 s17 s18 s19 s20 s21 s22 s23 s24 s25 s26 s27 s28 s29 s30 s31 s32 s33 s34 s35 s36 s37 s38 s39 s40 s41 s42 s43 s44 s45 s46 s47 s48 s49 s50 s51 s52 s53 s54 s55 s56 s57 s58 s59 s60 s61 s62 s63 s64 s65 : Value) (Q : Exit → Act → World → Prop) (HK : Hid (∀ u37 u38 u39 u40 u41 u42 u43 u44 u45 u46 wz, Touch [] W1 wz → Q .normal ⟨(s0 :: s1 :: .pointer (some ⟨X2, 0, none⟩) :: .pointer (some ⟨X3, 0, none⟩) :: s4 :: .int .i64 (i : Int) :: s6 :: s7 :: s8 :: s9 :: s10 :: s11 :: s12 :: s13 :: s14 :: s15 :: s16 :: s17 :: s18 :: s19 :: s20 :: s21 :: s22 :: s23 :: s24 :: s25 :: s26 :: s27 :: s28 :: s29 :: s30 :: s31 :: s32 :: s33 :: s34 :: s35 :: s36 :: u37 :: u38 :: u39 :: u40 :: u41 :: u42 :: u43 :: u44 :: u45 :: u46 :: .bool false :: s48 :: s49 :: s50 :: s51 :: s52 :: s53 :: s54 :: s55 :: s56 :: s57 :: s58 :: s59 :: s60 :: s61 :: s62 :: s63 :: s64 :: s65 :: []).toArray, []⟩ (wz))) : st_reg6Code.wp Try.prog Q ⟨(s0 :: s1 :: .pointer (some ⟨X2, 0, none⟩) :: .pointer (some ⟨X3, 0, none⟩) :: s4 :: .int .i64 (i : Int) :: s6 :: s7 :: s8 :: s9 :: s10 :: s11 :: s12 :: s13 :: s14 :: s15 :: s16 :: s17 :: s18 :: s19 :: s20 :: s21 :: s22 :: s23 :: s24 :: s25 :: s26 :: s27 :: s28 :: s29 :: s30 :: s31 :: s32 :: s33 :: s34 :: s35 :: s36 :: s37 :: s38 :: s39 :: s40 :: s41 :: s42 :: s43 :: s44 :: s45 :: s46 :: s47 :: s48 :: s49 :: s50 :: s51 :: s52 :: s53 :: s54 :: s55 :: s56 :: s57 :: s58 :: s59 :: s60 :: s61 :: s62 :: s63 :: s64 :: s65 :: []).toArray, []⟩ W1 := by
  conv => arg 2; whnf
  refine wp_region_facts (by kernel_rfl) [[], [(0, some 37)], [], [(1, some 38), (2, some 39)], [(3, some 40)], [], [(5, some 42)], [], [(6, some 43), (7, some 44)], [(8, some 45)], [(4, some 41), (9, some 46)]] [(0, some 37), (1, some 38), (2, some 39), (3, some 40), (4, some 41), (5, some 42), (6, some 43), (7, some 44), (8, some 45), (9, some 46), (10, some 47)] (by kernel_rfl) (by kernel_rfl) (by kernel_rfl) (Touch []) (Touch.refl []) (fun _ _ _ h h' => h.trans h' (fun i hi => .inl hi)) [Is (Value.pointer (some ⟨X2, 1, none⟩)), Is (Value.slice (some ⟨ga, 0, none⟩) n ca), Is (Value.int .i64 (i : Int)), Is (Value.pointer (some ⟨ga, i * 257, none⟩)), Is (Value.agg (ccell x).toArray), Is (Value.pointer (some ⟨X3, 1, none⟩)), Is (Value.slice (some ⟨gb, 0, none⟩) n cb), Is (Value.int .i64 (i : Int)), Is (Value.pointer (some ⟨gb, i * 257, none⟩)), Is (Value.agg (ccell x).toArray), Is (Value.bool false)] rfl ⟨is_stab _ _, is_stab _ _, is_stab _ _, is_stab _ _, is_stab _ _, is_stab _ _, is_stab _ _, is_stab _ _, is_stab _ _, is_stab _ _, is_stab _ _, trivial⟩ ⟨?o0, ?o1, ?o2, ?o3, ?o4, ?o5, ?o6, ?o7, ?o8, ?o9, ?o10, trivial⟩ ?_
  case o0 =>
    intro vals wq hRq hpq
    simp only [List.getD_cons_zero, List.getD_cons_succ, canonP]
    simp only [Oper.gives]
    go_simp
    exact ⟨is_mk _ _, (Touch.refl []) _⟩
  case o1 =>
    intro vals wq hRq hpq
    simp only [factsP, List.getD_cons_zero, List.getD_cons_succ] at hpq
    have f0 := hpq.1
    replace hpq := hpq.2
    clear hpq
    replace f0 : vals 0 = _ := f0
    simp only [List.getD_cons_zero, List.getD_cons_succ, canonP, f0]
    clear f0
    have hcc : wq.cell? ⟨X2, 1, none⟩ = some (.slice (some ⟨ga, 0, none⟩) n ca) := (Touch.cell ((Touch.drew [] W1).trans hRq (by simp)) (a := ⟨X2, 1, none⟩) HCa.out.1 (by simp)).trans HCa.out.2
    simp only [Oper.gives]
    go_simp
    exact ⟨is_mk _ _, Touch.refl _ _⟩
  case o2 =>
    intro vals wq hRq hpq
    simp only [List.getD_cons_zero, List.getD_cons_succ, canonP]
    simp only [Oper.gives]
    go_simp
    exact ⟨is_mk _ _, (Touch.refl []) _⟩
  case o3 =>
    intro vals wq hRq hpq
    simp only [factsP, List.getD_cons_zero, List.getD_cons_succ] at hpq
    have f1 := hpq.1
    replace hpq := hpq.2
    have f2 := hpq.1
    replace hpq := hpq.2
    clear hpq
    replace f1 : vals 1 = _ := f1
    replace f2 : vals 2 = _ := f2
    simp only [List.getD_cons_zero, List.getD_cons_succ, canonP, f1, f2]
    clear f1 f2
    have b0 := HB0.out
    have b1 := HB1.out
    simp only [Oper.gives]
    go_simp
    exact ⟨is_mk _ _, Touch.refl _ _⟩
  case o4 =>
    intro vals wq hRq hpq
    simp only [factsP, List.getD_cons_zero, List.getD_cons_succ] at hpq
    have f3 := hpq.1
    replace hpq := hpq.2
    clear hpq
    replace f3 : vals 3 = _ := f3
    simp only [List.getD_cons_zero, List.getD_cons_succ, canonP, f3]
    clear f3
    have hr := Row.kept HRa.out ((Touch.drew [] W1).trans hRq (by simp)) (by simp)
    exact gives_load_mid 46 _ rfl ga (i * 257) rfl (ccell x) _ (Row.range hr HGX.out) Try.underlying46 rfl HSz.out ⟨is_mk _ _, Touch.refl _ _⟩
  case o5 =>
    intro vals wq hRq hpq
    simp only [List.getD_cons_zero, List.getD_cons_succ, canonP]
    simp only [Oper.gives]
    go_simp
    exact ⟨is_mk _ _, (Touch.refl []) _⟩
  case o6 =>
    intro vals wq hRq hpq
    simp only [factsP, List.getD_cons_zero, List.getD_cons_succ] at hpq
    have f5 := hpq.1
    replace hpq := hpq.2
    clear hpq
    replace f5 : vals 5 = _ := f5
    simp only [List.getD_cons_zero, List.getD_cons_succ, canonP, f5]
    clear f5
    have hcc : wq.cell? ⟨X3, 1, none⟩ = some (.slice (some ⟨gb, 0, none⟩) n cb) := (Touch.cell ((Touch.drew [] W1).trans hRq (by simp)) (a := ⟨X3, 1, none⟩) HCb.out.1 (by simp)).trans HCb.out.2
    simp only [Oper.gives]
    go_simp
    exact ⟨is_mk _ _, Touch.refl _ _⟩
  case o7 =>
    intro vals wq hRq hpq
    simp only [List.getD_cons_zero, List.getD_cons_succ, canonP]
    simp only [Oper.gives]
    go_simp
    exact ⟨is_mk _ _, (Touch.refl []) _⟩
  case o8 =>
    intro vals wq hRq hpq
    simp only [factsP, List.getD_cons_zero, List.getD_cons_succ] at hpq
    have f6 := hpq.1
    replace hpq := hpq.2
    have f7 := hpq.1
    replace hpq := hpq.2
    clear hpq
    replace f6 : vals 6 = _ := f6
    replace f7 : vals 7 = _ := f7
    simp only [List.getD_cons_zero, List.getD_cons_succ, canonP, f6, f7]
    clear f6 f7
    have b0 := HB0.out
    have b1 := HB1.out
    simp only [Oper.gives]
    go_simp
    exact ⟨is_mk _ _, Touch.refl _ _⟩
  case o9 =>
    intro vals wq hRq hpq
    simp only [factsP, List.getD_cons_zero, List.getD_cons_succ] at hpq
    have f8 := hpq.1
    replace hpq := hpq.2
    clear hpq
    replace f8 : vals 8 = _ := f8
    simp only [List.getD_cons_zero, List.getD_cons_succ, canonP, f8]
    clear f8
    have hr := Row.kept HRb.out ((Touch.drew [] W1).trans hRq (by simp)) (by simp)
    exact gives_load_mid 46 _ rfl gb (i * 257) rfl (ccell x) _ (Row.range hr HGX.out) Try.underlying46 rfl HSz.out ⟨is_mk _ _, Touch.refl _ _⟩
  case o10 =>
    intro vals wq hRq hpq
    simp only [factsP, List.getD_cons_zero, List.getD_cons_succ] at hpq
    have f4 := hpq.1
    replace hpq := hpq.2
    have f9 := hpq.1
    replace hpq := hpq.2
    clear hpq
    replace f4 : vals 4 = _ := f4
    replace f9 : vals 9 = _ := f9
    simp only [List.getD_cons_zero, List.getD_cons_succ, canonP, f4, f9]
    clear f4 f9
    exact gives_binOp .neq 46 _ _ _ rfl _ _ rfl rfl (gC _ _ _ _ _ wq) (HNE.out wq) ⟨is_mk _ _, Touch.refl _ _⟩
  intro vals wz hRwz hfwz
  simp only [AllFacts] at hfwz
  have g0 := hfwz.1
  replace hfwz := hfwz.2
  have g1 := hfwz.1
  replace hfwz := hfwz.2
  have g2 := hfwz.1
  replace hfwz := hfwz.2
  have g3 := hfwz.1
  replace hfwz := hfwz.2
  have g4 := hfwz.1
  replace hfwz := hfwz.2
  have g5 := hfwz.1
  replace hfwz := hfwz.2
  have g6 := hfwz.1
  replace hfwz := hfwz.2
  have g7 := hfwz.1
  replace hfwz := hfwz.2
  have g8 := hfwz.1
  replace hfwz := hfwz.2
  have g9 := hfwz.1
  replace hfwz := hfwz.2
  have g10 := hfwz.1
  replace hfwz := hfwz.2
  clear hfwz
  replace g0 : vals 0 = _ := g0
  replace g1 : vals 1 = _ := g1
  replace g2 : vals 2 = _ := g2
  replace g3 : vals 3 = _ := g3
  replace g4 : vals 4 = _ := g4
  replace g5 : vals 5 = _ := g5
  replace g6 : vals 6 = _ := g6
  replace g7 : vals 7 = _ := g7
  replace g8 : vals 8 = _ := g8
  replace g9 : vals 9 = _ := g9
  replace g10 : vals 10 = _ := g10
  simp only [canonP, Act.put, List.setIfInBounds_toArray, List.set_cons_succ, List.set_cons_zero, g0, g1, g2, g3, g4, g5, g6, g7, g8, g9, g10]
  clear g0 g1 g2 g3 g4 g5 g6 g7 g8 g9 g10
  exact HK.out _ _ _ _ _ _ _ _ _ _ _ ((Touch.drew [] W1).trans hRwz (by simp))
#print axioms st_reg6
/-- a transaction's value -/
structure TrIs (w : World) (v : Value) (seq : Nat) (cs : List Cp) (zs : List Int) : Prop where
  ex : ∃ vc vr, v = .agg #[.int .u32 (seq : Int), vc, vr] ∧ CRow w vc cs ∧ IRow w vr zs
theorem TrIs.grow {w w' : World} {v : Value} {seq : Nat} {cs : List Cp} {zs : List Int} (h : TrIs w v seq cs zs) (hg : Grow w w') : TrIs w' v seq cs zs := by
  obtain ⟨vc, vr, h1, h2, h3⟩ := h.ex
  exact ⟨⟨vc, vr, h1, h2.grow hg, h3.grow hg⟩⟩
set_option maxRecDepth 100000 in
set_option maxHeartbeats 2000000 in
theorem sametrans_ok {w : World} {va vb : Value} {seq : Nat} {cs : List Cp} {zs : List Int} (ha : TrIs w va seq cs zs) (hb : TrIs w vb seq cs zs) (hc : cs.length ≤ 1000000) (hz : zs.length ≤ 1000000) : Calls Try.prog 29 #[va, vb] w fun e w' => e = .returned (.bool true) ∧ Grow w w' := by
  obtain ⟨vca, vra, rfl, hca, hra⟩ := ha.ex
  obtain ⟨vcb, vrb, rfl, hcb, hrb⟩ := hb.ex
  obtain ⟨ac, cac, hv⟩ := CRow.len hca
  obtain ⟨bc', cbc, hv2⟩ := CRow.len hcb
  obtain ⟨az, caz, hv3⟩ := IRow.len hra
  obtain ⟨bz, cbz, hv4⟩ := IRow.len hrb
  obtain ⟨n, hn⟩ : ∃ n, n = cs.length := ⟨_, rfl⟩
  obtain ⟨m, hm⟩ : ∃ m, m = zs.length := ⟨_, rfl⟩
  rw [← hn] at hv hv2 hc
  rw [← hm] at hv3 hv4 hz
  subst hv hv2 hv3 hv4
  have HN := Lib.hid hn
  have HMm := Lib.hid hm
  have hg2 : Grow w ((w.alloc (.cells #[.int .u32 (seq : Int), .slice ac n cac, .slice az m caz] 41)).alloc (.cells #[.int .u32 (seq : Int), .slice bc' n cbc, .slice bz m cbz] 41)) := (Grow.alloc _ _).trans (Grow.alloc _ _)
  have HG := Lib.hid hg2
  have HRA := Lib.hid (hca.grow hg2)
  have HRB := Lib.hid (hcb.grow hg2)
  have HZA := Lib.hid (hra.grow hg2)
  have HZB := Lib.hid (hrb.grow hg2)
  have HX2 := Lib.hid (show ((w.alloc (.cells #[.int .u32 (seq : Int), .slice ac n cac, .slice az m caz] 41)).alloc (.cells #[.int .u32 (seq : Int), .slice bc' n cbc, .slice bz m cbz] 41)).heap[w.heap.size]? = some (.cells #[.int .u32 (seq : Int), .slice ac n cac, .slice az m caz] 41) from heap_one _ _ _)
  have HX3 := Lib.hid (show ((w.alloc (.cells #[.int .u32 (seq : Int), .slice ac n cac, .slice az m caz] 41)).alloc (.cells #[.int .u32 (seq : Int), .slice bc' n cbc, .slice bz m cbz] 41)).heap[w.heap.size + 1]? = some (.cells #[.int .u32 (seq : Int), .slice bc' n cbc, .slice bz m cbz] 41) from heap_two _ _ _)
  have HLT := Lib.hid (show w.heap.size + 1 < ((w.alloc (.cells #[.int .u32 (seq : Int), .slice ac n cac, .slice az m caz] 41)).alloc (.cells #[.int .u32 (seq : Int), .slice bc' n cbc, .slice bz m cbz] 41)).heap.size by simp)
  clear ha hb hca hra hcb hrb hn hm hg2
  go_enter Try.func29, Try.ntmps29
  go_upto_region 1 with (fail)
  generalize ((w.alloc (.cells #[.int .u32 (seq : Int), .slice ac n cac, .slice az m caz] 41)).alloc (.cells #[.int .u32 (seq : Int), .slice bc' n cbc, .slice bz m cbz] 41)) = W at *
  have p0 : W.cell? ⟨w.heap.size, 0, none⟩ = some (.int .u32 (seq : Int)) := cell_at HX2.out 0
  have p1 : W.cell? ⟨w.heap.size, 1, none⟩ = some (.slice ac n cac) := cell_at HX2.out 1
  have p2 : W.cell? ⟨w.heap.size, 2, none⟩ = some (.slice az m caz) := cell_at HX2.out 2
  have q0 : W.cell? ⟨w.heap.size + 1, 0, none⟩ = some (.int .u32 (seq : Int)) := cell_at HX3.out 0
  have q1 : W.cell? ⟨w.heap.size + 1, 1, none⟩ = some (.slice bc' n cbc) := cell_at HX3.out 1
  have q2 : W.cell? ⟨w.heap.size + 1, 2, none⟩ = some (.slice bz m cbz) := cell_at HX3.out 2
  go_wp2_with fail
  clear p0 p1 p2 q0 q1 q2
  go_loopw [5] (fun t5 wr => ∃ i : Nat, i ≤ n ∧ t5 = .int .i64 (i : Int) ∧ Hid (Touch [] W wr)) (fun t5 _ => n - (intOfV t5).toNat)
  case atStart => exact ⟨0, by omega, rfl, Lib.hid (Touch.refl _ _)⟩
  case round =>
    obtain ⟨i, hi, rfl, HT⟩ := hrel
    have hob2 := (HT.out.block w.heap.size (by have := HLT.out; omega) (by simp)).trans HX2.out
    have hob3 := (HT.out.block (w.heap.size + 1) HLT.out (by simp)).trans HX3.out
    have HO2 := Lib.hid hob2
    have HO3 := Lib.hid hob3
    have p1 : wr.cell? ⟨w.heap.size, 1, none⟩ = some (.slice ac n cac) := cell_at hob2 1
    clear hob2 hob3
    by_cases hlt : i < n
    · obtain ⟨x, hx⟩ : ∃ x, cs[i]? = some x := ⟨cs[i]'(by rw [← HN.out]; exact hlt), by simp⟩
      obtain ⟨ga, ca', hv, _⟩ := CRow.open_ HRA.out (by rw [← HN.out]; omega)
      rw [← HN.out] at hv
      cases hv
      obtain ⟨gb, cb', hv, _⟩ := CRow.open_ HRB.out (by rw [← HN.out]; omega)
      rw [← HN.out] at hv
      cases hv
      have HGX := Lib.hid (show (cs.map ccell)[i]? = some (ccell x) by rw [List.getElem?_map, hx]; rfl)
      have HXl := Lib.hid (HRA.out.blk (List.mem_of_getElem? hx))
      clear hx
      go_upto_region 6 with (fail)
      clear p1
      refine st_reg6 w.heap.size (w.heap.size + 1) ga gb i n cac cbc x cs wr (Lib.hid (by omega)) (Lib.hid (by omega)) (Lib.hid ⟨by have := HLT.out; have := HT.out.size; omega, cell_at HO2.out 1⟩) (Lib.hid ⟨by have := HLT.out; have := HT.out.size; omega, cell_at HO3.out 1⟩) (Lib.hid (Row.kept HRA.out HT.out (by simp))) (Lib.hid (Row.kept HRB.out HT.out (by simp))) HGX (Lib.hid (csizeL HXl.out)) (Lib.hid fun w => by rw [neqC x x HXl.out HXl.out w, decide_eq_true rfl]; rfl) _ _ _ _ _ _ _ _ _ _ _ _ _ _ _ _ _ _ _ _ _ _ _ _ _ _ _ _ _ _ _ _ _ _ _ _ _ _ _ _ _ _ _ _ _ _ _ _ _ _ _ _ _ _ _ _ _ _ _ _ _ _ _ _ (Lib.hid ?hk)
      intro u37 u38 u39 u40 u41 u42 u43 u44 u45 u46 wz hz
      have HZ := Lib.hid (HT.out.trans hz (by simp))
      clear hz
      go_wp2_with fail
      go_roundw
      case rel => exact ⟨i + 1, by omega, by go_num, HZ⟩
      case measure => simp [intOfV]; omega
    · obtain rfl : i = n := by omega
      go_wp2_with fail
      clear p1
      have HG3 := Lib.hid (Grow.trans HG.out HT.out.grow)
      have HLT2 := Lib.hid (Nat.lt_of_lt_of_le HLT.out HT.out.size)
      have HZA2 := Lib.hid (HZA.out.grow HT.out.grow)
      have HZB2 := Lib.hid (HZB.out.grow HT.out.grow)
      obtain ⟨wq, rfl⟩ : ∃ wq : World, wq = wr := ⟨_, rfl⟩
      clear HT HRA HRB HX2 HX3 HZA HZB HG HLT
      go_loopw [6] (fun t6 ws => ∃ j : Nat, j ≤ m ∧ t6 = .int .i64 (j : Int) ∧ Hid (Touch [] wq ws)) (fun t6 _ => m - (intOfV t6).toNat)
      case atStart => exact ⟨0, by omega, rfl, Lib.hid (Touch.refl _ _)⟩
      case round =>
        obtain ⟨j, hj, rfl, HS⟩ := hrel
        have hob2 := (HS.out.block w.heap.size (by have := HLT2.out; omega) (by simp)).trans HO2.out
        have hob3 := (HS.out.block (w.heap.size + 1) HLT2.out (by simp)).trans HO3.out
        have p2 : wr.cell? ⟨w.heap.size, 2, none⟩ = some (.slice az m caz) := cell_at hob2 2
        have q2 : wr.cell? ⟨w.heap.size + 1, 2, none⟩ = some (.slice bz m cbz) := cell_at hob3 2
        clear hob2 hob3
        by_cases hlt : j < m
        · obtain ⟨z, hz⟩ : ∃ z, zs[j]? = some z := ⟨zs[j]'(by rw [← HMm.out]; exact hlt), by simp⟩
          obtain ⟨ga, ca', hv, _⟩ := IRow.open_ HZA2.out (by rw [← HMm.out]; omega)
          rw [← HMm.out] at hv
          cases hv
          obtain ⟨gb, cb', hv, _⟩ := IRow.open_ HZB2.out (by rw [← HMm.out]; omega)
          rw [← HMm.out] at hv
          cases hv
          have y0 := IRow.cell (HZA2.out.grow HS.out.grow) hz
          have y1 := IRow.cell (HZB2.out.grow HS.out.grow) hz
          have b0 : (0 : Int) ≤ (j : Int) := by omega
          have b1 : (j : Int) < (m : Int) := by omega
          clear hz
          go_upto_region 11 with (fail)
          go_quiet (fail)
          clear p2 q2 y0 y1
          go_wp2_with fail
          go_roundw
          case rel => exact ⟨j + 1, by omega, by go_num, Lib.hid (HS.out.trans (touch_drewN [] _ _) (by simp))⟩
          case measure => simp [intOfV]; omega
        · obtain rfl : j = m := by omega
          go_wp2_with fail
          go_ret
          exact ⟨rfl, Grow.trans HG3.out HS.out.grow⟩
#print axioms sametrans_ok
end Go.Proofs.Ytnogajnoghjmhaa
