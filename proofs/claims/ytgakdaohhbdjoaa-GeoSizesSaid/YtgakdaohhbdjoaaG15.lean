/- The law GeoSizes: the walk. -/
import Derived.Test.YtgakdaohhbdjoaaG14
set_option linter.unusedVariables false
set_option linter.unusedSimpArgs false
namespace Go.Proofs.Ytgakdaohhbdjoaa
open Go.RowKit Go.Shelf

set_option maxRecDepth 100000 in
set_option maxHeartbeats 4000000 in
theorem sizes_walk (gr sz ni jr : Int) (w : World) :
    Calls Try.prog 7 #[gv gr sz ni jr] w fun e w' => e = .returned (.bool true) ∧ Below w.heap.size w w' := by
  by_cases h : May gr sz ni jr
  · have HM := Lib.hid h
    have HE1 : nBlocks gr sz ni jr = 2 + jr + gr * sz := if_pos h
    have HE2 : nInodes gr sz ni jr = gr * ni := if_pos h
    have HE3 : nData gr sz ni jr = sz - 2 - ni / 4 := if_pos h
    obtain ⟨h1, h2, h3, h4, h5, h6, h7, h8, h9, h10, h11⟩ := h
    have hb := mul_bd h1 h2 h3 h4
    have hb2 := mul_gi h1 h2 h5 h6
    obtain ⟨s1, hs1⟩ : ∃ s1, s1 = 2 + jr := ⟨_, rfl⟩
    obtain ⟨s2, hs2⟩ : ∃ s2, s2 = gr * sz := ⟨_, rfl⟩
    obtain ⟨NB, hNB⟩ : ∃ NB, NB = s1 + s2 := ⟨_, rfl⟩
    obtain ⟨NI, hNI⟩ : ∃ NI, NI = gr * ni := ⟨_, rfl⟩
    obtain ⟨s3, hs3⟩ : ∃ s3, s3 = sz - 2 := ⟨_, rfl⟩
    obtain ⟨s4, hs4⟩ : ∃ s4, s4 = ni / 4 := ⟨_, rfl⟩
    obtain ⟨ND, hND⟩ : ∃ ND, ND = s3 - s4 := ⟨_, rfl⟩
    have E1 := Lib.hid (show IntKind.i64.wrap (2 + jr) = s1 by rw [hs1]; exact IntWalk.i64_in _ (by omega))
    have E2 := Lib.hid (show IntKind.i64.wrap (gr * sz) = s2 by rw [hs2]; exact IntWalk.i64_in _ (by omega))
    have E3 := Lib.hid (show IntKind.i64.wrap (s1 + s2) = NB by rw [hNB]; exact IntWalk.i64_in _ (by omega))
    have E4 := Lib.hid (show IntKind.i64.wrap (gr * ni) = NI by rw [hNI]; exact IntWalk.i64_in _ (by omega))
    have E5 := Lib.hid (show IntKind.i64.wrap (sz - 2) = s3 by rw [hs3]; exact IntWalk.i64_in _ (by omega))
    have E6 := Lib.hid (show ni.tdiv 4 = s4 by rw [Int.tdiv_eq_ediv_of_nonneg (by omega)]; exact hs4.symm)
    have E6b := Lib.hid (show IntKind.i64.wrap s4 = s4 from IntWalk.i64_in _ (by omega))
    have E7 := Lib.hid (show IntKind.i64.wrap (s3 - s4) = ND by rw [hND]; exact IntWalk.i64_in _ (by omega))
    have B1 := Lib.hid (show decide (NB ≤ 2048) = true by simp; omega)
    have B2 := Lib.hid (show decide (1 ≤ ND) = true by simp; omega)
    have HBL := Lib.hid (show ∀ wq, Calls Try.prog 22 #[gv gr sz ni jr] wq fun e w' => e = .returned (.int .i64 NB) ∧ Grow wq w' by
      intro wq; have := blocks_any gr sz ni jr wq; rw [HE1, show 2 + jr + gr * sz = NB by omega] at this; exact this)
    have HNL := Lib.hid (show ∀ wq, Calls Try.prog 24 #[gv gr sz ni jr] wq fun e w' => e = .returned (.int .i64 NI) ∧ Grow wq w' by
      intro wq; have := inodes_any gr sz ni jr wq; rw [HE2, ← hNI] at this; exact this)
    have HDL := Lib.hid (show ∀ wq, Calls Try.prog 26 #[gv gr sz ni jr] wq fun e w' => e = .returned (.int .i64 ND) ∧ Grow wq w' by
      intro wq; have := data_any gr sz ni jr wq; rw [HE3, show sz - 2 - ni / 4 = ND by omega] at this; exact this)
    clear HE1 HE2 HE3 h1 h2 h3 h4 h5 h6 h7 h8 h9 h10 h11 hb hb2 hs1 hs2 hNB hNI hs3 hs4 hND
    go_enter Try.func7, Try.ntmps7
    go_wp2_with fail
    refine (awake_ok _).mono ?_
    rintro e w1 ⟨rfl, hg1⟩
    obtain ⟨c0, c1, c2, c3⟩ := box_at hg1
    have HG1 := Lib.hid hg1
    clear hg1
    go_wp2_with fail
    refine (may_yes gr sz ni jr HM.out _).mono ?_
    rintro e w2 ⟨rfl, hg2⟩
    have HG2 := Lib.hid (HG1.out.trans hg2)
    clear hg2 c0 c1 c2 c3
    go_wp2_with fail
    refine wp_region_facts (by kernel_rfl) [[], [(0, some 21)], [], [(2, some 23)], [(3, some 24)], [], [(5, some 26)], [], [(7, some 28)], [(6, some 27), (8, some 29)], [(4, some 25), (9, some 30)], [(1, some 22), (10, some 31)], [(1, some 22), (11, some 32)], [(12, some 33)], [(12, some 33), (13, some 34)], [(12, some 33), (14, some 35)], [(12, some 33), (15, some 36)], [(14, some 35), (16, some 37)], [(17, some 38)], [(17, some 38), (18, some 39)], [(17, some 38)], [(17, some 38), (20, some 41)], [(17, some 38)], [(17, some 38), (22, some 43)], [(17, some 38), (21, some 42), (23, some 44)], [(17, some 38), (19, some 40), (24, some 45)], [(17, some 38), (25, some 46)], [(19, some 40), (26, some 47)], [(27, some 48)], [(27, some 48), (28, some 49)], [(27, some 48)], [(27, some 48), (30, some 51)], [(27, some 48), (31, some 52)], [(27, some 48)], [(27, some 48), (33, some 54)], [(27, some 48), (34, some 55)], [(27, some 48), (32, some 53), (35, some 56)], [(27, some 48), (29, some 50), (36, some 57)], [(27, some 48), (37, some 58)], [(29, some 50), (38, some 59)], [(39, some 60)], [(39, some 60), (40, some 61)], [(39, some 60), (41, some 62)], [(39, some 60), (42, some 63)], [(0, some 21), (1, some 22), (2, some 23), (3, some 24), (4, some 25), (5, some 26), (6, some 27), (7, some 28), (8, some 29), (9, some 30), (10, some 31), (11, some 32), (12, some 33), (13, some 34), (14, some 35), (15, some 36), (16, some 37), (17, some 38), (18, some 39), (19, some 40), (20, some 41), (21, some 42), (22, some 43), (23, some 44), (24, some 45), (25, some 46), (26, some 47), (27, some 48), (28, some 49), (29, some 50), (30, some 51), (31, some 52), (32, some 53), (33, some 54), (34, some 55), (35, some 56), (36, some 57), (37, some 58), (38, some 59), (39, some 60), (40, some 61), (41, some 62), (42, some 63), (43, some 64)]] [(0, some 21), (1, some 22), (2, some 23), (3, some 24), (4, some 25), (5, some 26), (6, some 27), (7, some 28), (8, some 29), (9, some 30), (10, some 31), (11, some 32), (12, some 33), (13, some 34), (14, some 35), (15, some 36), (16, some 37), (17, some 38), (18, some 39), (19, some 40), (20, some 41), (21, some 42), (22, some 43), (23, some 44), (24, some 45), (25, some 46), (26, some 47), (27, some 48), (28, some 49), (29, some 50), (30, some 51), (31, some 52), (32, some 53), (33, some 54), (34, some 55), (35, some 56), (36, some 57), (37, some 58), (38, some 59), (39, some 60), (40, some 61), (41, some 62), (42, some 63), (43, some 64), (44, some 2)] (by kernel_rfl) (by kernel_rfl) (by kernel_rfl) (Grow) Grow.refl (fun _ _ _ h h' => Grow.trans h h') [Is (Value.agg #[Value.int .i64 gr, Value.int .i64 sz, Value.int .i64 ni, Value.int .i64 jr]), Is (Value.int .i64 NB), Is (Value.pointer (some ⟨w.heap.size, 3, none⟩)), Is (Value.int .i64 jr), Is (Value.int .i64 s1), Is (Value.pointer (some ⟨w.heap.size, 0, none⟩)), Is (Value.int .i64 gr), Is (Value.pointer (some ⟨w.heap.size, 1, none⟩)), Is (Value.int .i64 sz), Is (Value.int .i64 s2), Is (Value.int .i64 NB), Is (Value.bool true), Is (Value.bool true), Is (Value.agg #[Value.int .i64 gr, Value.int .i64 sz, Value.int .i64 ni, Value.int .i64 jr]), Is (Value.int .i64 NB), Is (Value.bool true), Is (Value.bool true), Is (Value.bool true), Is (Value.agg #[Value.int .i64 gr, Value.int .i64 sz, Value.int .i64 ni, Value.int .i64 jr]), Is (Value.int .i64 NI), Is (Value.pointer (some ⟨w.heap.size, 0, none⟩)), Is (Value.int .i64 gr), Is (Value.pointer (some ⟨w.heap.size, 2, none⟩)), Is (Value.int .i64 ni), Is (Value.int .i64 NI), Is (Value.bool true), Is (Value.bool true), Is (Value.bool true), Is (Value.agg #[Value.int .i64 gr, Value.int .i64 sz, Value.int .i64 ni, Value.int .i64 jr]), Is (Value.int .i64 ND), Is (Value.pointer (some ⟨w.heap.size, 1, none⟩)), Is (Value.int .i64 sz), Is (Value.int .i64 s3), Is (Value.pointer (some ⟨w.heap.size, 2, none⟩)), Is (Value.int .i64 ni), Is (Value.int .i64 s4), Is (Value.int .i64 ND), Is (Value.bool true), Is (Value.bool true), Is (Value.bool true), Is (Value.agg #[Value.int .i64 gr, Value.int .i64 sz, Value.int .i64 ni, Value.int .i64 jr]), Is (Value.int .i64 ND), Is (Value.bool true), Is (Value.bool true), Is (Value.bool true)] rfl ⟨is_stab _ _, is_stab _ _, is_stab _ _, is_stab _ _, is_stab _ _, is_stab _ _, is_stab _ _, is_stab _ _, is_stab _ _, is_stab _ _, is_stab _ _, is_stab _ _, is_stab _ _, is_stab _ _, is_stab _ _, is_stab _ _, is_stab _ _, is_stab _ _, is_stab _ _, is_stab _ _, is_stab _ _, is_stab _ _, is_stab _ _, is_stab _ _, is_stab _ _, is_stab _ _, is_stab _ _, is_stab _ _, is_stab _ _, is_stab _ _, is_stab _ _, is_stab _ _, is_stab _ _, is_stab _ _, is_stab _ _, is_stab _ _, is_stab _ _, is_stab _ _, is_stab _ _, is_stab _ _, is_stab _ _, is_stab _ _, is_stab _ _, is_stab _ _, is_stab _ _, trivial⟩ ⟨?o0, ?o1, ?o2, ?o3, ?o4, ?o5, ?o6, ?o7, ?o8, ?o9, ?o10, ?o11, ?o12, ?o13, ?o14, ?o15, ?o16, ?o17, ?o18, ?o19, ?o20, ?o21, ?o22, ?o23, ?o24, ?o25, ?o26, ?o27, ?o28, ?o29, ?o30, ?o31, ?o32, ?o33, ?o34, ?o35, ?o36, ?o37, ?o38, ?o39, ?o40, ?o41, ?o42, ?o43, ?o44, trivial⟩ ?_
    case o0 =>
      intro vals wq hRq hpq
      simp only [List.getD_cons_zero, List.getD_cons_succ, canonP]
      have hb4 := HG2.out.trans ((Grow.drew _).trans hRq)
      have c0 := (box_at hb4).1
      have c1 := (box_at hb4).2.1
      have c2 := (box_at hb4).2.2.1
      have c3 := (box_at hb4).2.2.2
      simp only [Oper.gives]
      go_simp
      exact ⟨is_mk _ _, Grow.refl _⟩
    case o1 =>
      intro vals wq hRq hpq
      simp only [factsP, List.getD_cons_zero, List.getD_cons_succ] at hpq
      have f0 := hpq.1
      replace hpq := hpq.2
      clear hpq
      replace f0 : vals 0 = _ := f0
      simp only [List.getD_cons_zero, List.getD_cons_succ, canonP, f0]
      clear f0
      simp only [Oper.gives]
      go_simp
      exact (HBL.out wq).mono fun e w' ⟨he, hg⟩ => ⟨_, he, is_mk _ _, hg⟩
    case o2 =>
      intro vals wq hRq hpq
      simp only [List.getD_cons_zero, List.getD_cons_succ, canonP]
      simp only [Oper.gives]
      go_simp
      exact ⟨is_mk _ _, Grow.refl _⟩
    case o3 =>
      intro vals wq hRq hpq
      simp only [factsP, List.getD_cons_zero, List.getD_cons_succ] at hpq
      have f2 := hpq.1
      replace hpq := hpq.2
      clear hpq
      replace f2 : vals 2 = _ := f2
      simp only [List.getD_cons_zero, List.getD_cons_succ, canonP, f2]
      clear f2
      have hb4 := HG2.out.trans ((Grow.drew _).trans hRq)
      have c0 := (box_at hb4).1
      have c1 := (box_at hb4).2.1
      have c2 := (box_at hb4).2.2.1
      have c3 := (box_at hb4).2.2.2
      simp only [Oper.gives]
      go_simp
      exact ⟨is_mk _ _, Grow.refl _⟩
    case o4 =>
      intro vals wq hRq hpq
      simp only [factsP, List.getD_cons_zero, List.getD_cons_succ] at hpq
      have f3 := hpq.1
      replace hpq := hpq.2
      clear hpq
      replace f3 : vals 3 = _ := f3
      simp only [List.getD_cons_zero, List.getD_cons_succ, canonP, f3]
      clear f3
      have hh0 := E1.out
      simp only [Oper.gives]
      go_simp
      exact ⟨is_mk _ _, Grow.refl _⟩
    case o5 =>
      intro vals wq hRq hpq
      simp only [List.getD_cons_zero, List.getD_cons_succ, canonP]
      simp only [Oper.gives]
      go_simp
      exact ⟨is_mk _ _, Grow.refl _⟩
    case o6 =>
      intro vals wq hRq hpq
      simp only [factsP, List.getD_cons_zero, List.getD_cons_succ] at hpq
      have f5 := hpq.1
      replace hpq := hpq.2
      clear hpq
      replace f5 : vals 5 = _ := f5
      simp only [List.getD_cons_zero, List.getD_cons_succ, canonP, f5]
      clear f5
      have hb4 := HG2.out.trans ((Grow.drew _).trans hRq)
      have c0 := (box_at hb4).1
      have c1 := (box_at hb4).2.1
      have c2 := (box_at hb4).2.2.1
      have c3 := (box_at hb4).2.2.2
      simp only [Oper.gives]
      go_simp
      exact ⟨is_mk _ _, Grow.refl _⟩
    case o7 =>
      intro vals wq hRq hpq
      simp only [List.getD_cons_zero, List.getD_cons_succ, canonP]
      simp only [Oper.gives]
      go_simp
      exact ⟨is_mk _ _, Grow.refl _⟩
    case o8 =>
      intro vals wq hRq hpq
      simp only [factsP, List.getD_cons_zero, List.getD_cons_succ] at hpq
      have f7 := hpq.1
      replace hpq := hpq.2
      clear hpq
      replace f7 : vals 7 = _ := f7
      simp only [List.getD_cons_zero, List.getD_cons_succ, canonP, f7]
      clear f7
      have hb4 := HG2.out.trans ((Grow.drew _).trans hRq)
      have c0 := (box_at hb4).1
      have c1 := (box_at hb4).2.1
      have c2 := (box_at hb4).2.2.1
      have c3 := (box_at hb4).2.2.2
      simp only [Oper.gives]
      go_simp
      exact ⟨is_mk _ _, Grow.refl _⟩
    case o9 =>
      intro vals wq hRq hpq
      simp only [factsP, List.getD_cons_zero, List.getD_cons_succ] at hpq
      have f6 := hpq.1
      replace hpq := hpq.2
      have f8 := hpq.1
      replace hpq := hpq.2
      clear hpq
      replace f6 : vals 6 = _ := f6
      replace f8 : vals 8 = _ := f8
      simp only [List.getD_cons_zero, List.getD_cons_succ, canonP, f6, f8]
      clear f6 f8
      have hh0 := E2.out
      simp only [Oper.gives]
      go_simp
      exact ⟨is_mk _ _, Grow.refl _⟩
    case o10 =>
      intro vals wq hRq hpq
      simp only [factsP, List.getD_cons_zero, List.getD_cons_succ] at hpq
      have f4 := hpq.1
      replace hpq := hpq.2
      have f9 := hpq.1
      replace hpq := hpq.2
      clear hpq
      replace f4 : vals 4 = _ := f4
      replace f9 : vals 9 = _ := f9
      simp only [List.getD_cons_zero, List.getD_cons_succ, canonP, f4, f9]
      clear f4 f9
      have hh0 := E3.out
      simp only [Oper.gives]
      go_simp
      exact ⟨is_mk _ _, Grow.refl _⟩
    case o11 =>
      intro vals wq hRq hpq
      simp only [factsP, List.getD_cons_zero, List.getD_cons_succ] at hpq
      have f1 := hpq.1
      replace hpq := hpq.2
      have f10 := hpq.1
      replace hpq := hpq.2
      clear hpq
      replace f1 : vals 1 = _ := f1
      replace f10 : vals 10 = _ := f10
      simp only [List.getD_cons_zero, List.getD_cons_succ, canonP, f1, f10]
      clear f1 f10
      simp only [Oper.gives]
      go_simp
      exact ⟨is_mk _ _, Grow.refl _⟩
    case o12 =>
      intro vals wq hRq hpq
      simp only [factsP, List.getD_cons_zero, List.getD_cons_succ] at hpq
      have f1 := hpq.1
      replace hpq := hpq.2
      have f11 := hpq.1
      replace hpq := hpq.2
      clear hpq
      replace f1 : vals 1 = _ := f1
      replace f11 : vals 11 = _ := f11
      simp only [List.getD_cons_zero, List.getD_cons_succ, canonP, f1, f11]
      clear f1 f11
      simp only [Oper.gives]
      go_simp
      exact ⟨is_mk _ _, Grow.refl _⟩
    case o13 =>
      intro vals wq hRq hpq
      simp only [factsP, List.getD_cons_zero, List.getD_cons_succ] at hpq
      have f12 := hpq.1
      replace hpq := hpq.2
      clear hpq
      replace f12 : vals 12 = _ := f12
      simp only [List.getD_cons_zero, List.getD_cons_succ, canonP, f12]
      clear f12
      have hb4 := HG2.out.trans ((Grow.drew _).trans hRq)
      have c0 := (box_at hb4).1
      have c1 := (box_at hb4).2.1
      have c2 := (box_at hb4).2.2.1
      have c3 := (box_at hb4).2.2.2
      simp only [Oper.gives]
      go_simp
      exact ⟨is_mk _ _, Grow.refl _⟩
    case o14 =>
      intro vals wq hRq hpq
      simp only [factsP, List.getD_cons_zero, List.getD_cons_succ] at hpq
      have f12 := hpq.1
      replace hpq := hpq.2
      have f13 := hpq.1
      replace hpq := hpq.2
      clear hpq
      replace f12 : vals 12 = _ := f12
      replace f13 : vals 13 = _ := f13
      simp only [List.getD_cons_zero, List.getD_cons_succ, canonP, f12, f13]
      clear f12 f13
      simp only [Oper.gives]
      go_simp
      exact (HBL.out wq).mono fun e w' ⟨he, hg⟩ => ⟨_, he, is_mk _ _, hg⟩
    case o15 =>
      intro vals wq hRq hpq
      simp only [factsP, List.getD_cons_zero, List.getD_cons_succ] at hpq
      have f12 := hpq.1
      replace hpq := hpq.2
      have f14 := hpq.1
      replace hpq := hpq.2
      clear hpq
      replace f12 : vals 12 = _ := f12
      replace f14 : vals 14 = _ := f14
      simp only [List.getD_cons_zero, List.getD_cons_succ, canonP, f12, f14]
      clear f12 f14
      have hh0 := B1.out
      simp only [Oper.gives]
      go_simp
      exact ⟨is_mk _ _, Grow.refl _⟩
    case o16 =>
      intro vals wq hRq hpq
      simp only [factsP, List.getD_cons_zero, List.getD_cons_succ] at hpq
      have f12 := hpq.1
      replace hpq := hpq.2
      have f15 := hpq.1
      replace hpq := hpq.2
      clear hpq
      replace f12 : vals 12 = _ := f12
      replace f15 : vals 15 = _ := f15
      simp only [List.getD_cons_zero, List.getD_cons_succ, canonP, f12, f15]
      clear f12 f15
      simp only [Oper.gives]
      go_simp
      exact ⟨is_mk _ _, Grow.refl _⟩
    case o17 =>
      intro vals wq hRq hpq
      simp only [factsP, List.getD_cons_zero, List.getD_cons_succ] at hpq
      have f14 := hpq.1
      replace hpq := hpq.2
      have f16 := hpq.1
      replace hpq := hpq.2
      clear hpq
      replace f14 : vals 14 = _ := f14
      replace f16 : vals 16 = _ := f16
      simp only [List.getD_cons_zero, List.getD_cons_succ, canonP, f14, f16]
      clear f14 f16
      simp only [Oper.gives]
      go_simp
      exact ⟨is_mk _ _, Grow.refl _⟩
    case o18 =>
      intro vals wq hRq hpq
      simp only [factsP, List.getD_cons_zero, List.getD_cons_succ] at hpq
      have f17 := hpq.1
      replace hpq := hpq.2
      clear hpq
      replace f17 : vals 17 = _ := f17
      simp only [List.getD_cons_zero, List.getD_cons_succ, canonP, f17]
      clear f17
      have hb4 := HG2.out.trans ((Grow.drew _).trans hRq)
      have c0 := (box_at hb4).1
      have c1 := (box_at hb4).2.1
      have c2 := (box_at hb4).2.2.1
      have c3 := (box_at hb4).2.2.2
      simp only [Oper.gives]
      go_simp
      exact ⟨is_mk _ _, Grow.refl _⟩
    case o19 =>
      intro vals wq hRq hpq
      simp only [factsP, List.getD_cons_zero, List.getD_cons_succ] at hpq
      have f17 := hpq.1
      replace hpq := hpq.2
      have f18 := hpq.1
      replace hpq := hpq.2
      clear hpq
      replace f17 : vals 17 = _ := f17
      replace f18 : vals 18 = _ := f18
      simp only [List.getD_cons_zero, List.getD_cons_succ, canonP, f17, f18]
      clear f17 f18
      simp only [Oper.gives]
      go_simp
      exact (HNL.out wq).mono fun e w' ⟨he, hg⟩ => ⟨_, he, is_mk _ _, hg⟩
    case o20 =>
      intro vals wq hRq hpq
      simp only [factsP, List.getD_cons_zero, List.getD_cons_succ] at hpq
      have f17 := hpq.1
      replace hpq := hpq.2
      clear hpq
      replace f17 : vals 17 = _ := f17
      simp only [List.getD_cons_zero, List.getD_cons_succ, canonP, f17]
      clear f17
      simp only [Oper.gives]
      go_simp
      exact ⟨is_mk _ _, Grow.refl _⟩
    case o21 =>
      intro vals wq hRq hpq
      simp only [factsP, List.getD_cons_zero, List.getD_cons_succ] at hpq
      have f17 := hpq.1
      replace hpq := hpq.2
      have f20 := hpq.1
      replace hpq := hpq.2
      clear hpq
      replace f17 : vals 17 = _ := f17
      replace f20 : vals 20 = _ := f20
      simp only [List.getD_cons_zero, List.getD_cons_succ, canonP, f17, f20]
      clear f17 f20
      have hb4 := HG2.out.trans ((Grow.drew _).trans hRq)
      have c0 := (box_at hb4).1
      have c1 := (box_at hb4).2.1
      have c2 := (box_at hb4).2.2.1
      have c3 := (box_at hb4).2.2.2
      simp only [Oper.gives]
      go_simp
      exact ⟨is_mk _ _, Grow.refl _⟩
    case o22 =>
      intro vals wq hRq hpq
      simp only [factsP, List.getD_cons_zero, List.getD_cons_succ] at hpq
      have f17 := hpq.1
      replace hpq := hpq.2
      clear hpq
      replace f17 : vals 17 = _ := f17
      simp only [List.getD_cons_zero, List.getD_cons_succ, canonP, f17]
      clear f17
      simp only [Oper.gives]
      go_simp
      exact ⟨is_mk _ _, Grow.refl _⟩
    case o23 =>
      intro vals wq hRq hpq
      simp only [factsP, List.getD_cons_zero, List.getD_cons_succ] at hpq
      have f17 := hpq.1
      replace hpq := hpq.2
      have f22 := hpq.1
      replace hpq := hpq.2
      clear hpq
      replace f17 : vals 17 = _ := f17
      replace f22 : vals 22 = _ := f22
      simp only [List.getD_cons_zero, List.getD_cons_succ, canonP, f17, f22]
      clear f17 f22
      have hb4 := HG2.out.trans ((Grow.drew _).trans hRq)
      have c0 := (box_at hb4).1
      have c1 := (box_at hb4).2.1
      have c2 := (box_at hb4).2.2.1
      have c3 := (box_at hb4).2.2.2
      simp only [Oper.gives]
      go_simp
      exact ⟨is_mk _ _, Grow.refl _⟩
    case o24 =>
      intro vals wq hRq hpq
      simp only [factsP, List.getD_cons_zero, List.getD_cons_succ] at hpq
      have f17 := hpq.1
      replace hpq := hpq.2
      have f21 := hpq.1
      replace hpq := hpq.2
      have f23 := hpq.1
      replace hpq := hpq.2
      clear hpq
      replace f17 : vals 17 = _ := f17
      replace f21 : vals 21 = _ := f21
      replace f23 : vals 23 = _ := f23
      simp only [List.getD_cons_zero, List.getD_cons_succ, canonP, f17, f21, f23]
      clear f17 f21 f23
      have hh0 := E4.out
      simp only [Oper.gives]
      go_simp
      exact ⟨is_mk _ _, Grow.refl _⟩
    case o25 =>
      intro vals wq hRq hpq
      simp only [factsP, List.getD_cons_zero, List.getD_cons_succ] at hpq
      have f17 := hpq.1
      replace hpq := hpq.2
      have f19 := hpq.1
      replace hpq := hpq.2
      have f24 := hpq.1
      replace hpq := hpq.2
      clear hpq
      replace f17 : vals 17 = _ := f17
      replace f19 : vals 19 = _ := f19
      replace f24 : vals 24 = _ := f24
      simp only [List.getD_cons_zero, List.getD_cons_succ, canonP, f17, f19, f24]
      clear f17 f19 f24
      simp only [Oper.gives]
      go_simp
      exact ⟨is_mk _ _, Grow.refl _⟩
    case o26 =>
      intro vals wq hRq hpq
      simp only [factsP, List.getD_cons_zero, List.getD_cons_succ] at hpq
      have f17 := hpq.1
      replace hpq := hpq.2
      have f25 := hpq.1
      replace hpq := hpq.2
      clear hpq
      replace f17 : vals 17 = _ := f17
      replace f25 : vals 25 = _ := f25
      simp only [List.getD_cons_zero, List.getD_cons_succ, canonP, f17, f25]
      clear f17 f25
      simp only [Oper.gives]
      go_simp
      exact ⟨is_mk _ _, Grow.refl _⟩
    case o27 =>
      intro vals wq hRq hpq
      simp only [factsP, List.getD_cons_zero, List.getD_cons_succ] at hpq
      have f19 := hpq.1
      replace hpq := hpq.2
      have f26 := hpq.1
      replace hpq := hpq.2
      clear hpq
      replace f19 : vals 19 = _ := f19
      replace f26 : vals 26 = _ := f26
      simp only [List.getD_cons_zero, List.getD_cons_succ, canonP, f19, f26]
      clear f19 f26
      simp only [Oper.gives]
      go_simp
      exact ⟨is_mk _ _, Grow.refl _⟩
    case o28 =>
      intro vals wq hRq hpq
      simp only [factsP, List.getD_cons_zero, List.getD_cons_succ] at hpq
      have f27 := hpq.1
      replace hpq := hpq.2
      clear hpq
      replace f27 : vals 27 = _ := f27
      simp only [List.getD_cons_zero, List.getD_cons_succ, canonP, f27]
      clear f27
      have hb4 := HG2.out.trans ((Grow.drew _).trans hRq)
      have c0 := (box_at hb4).1
      have c1 := (box_at hb4).2.1
      have c2 := (box_at hb4).2.2.1
      have c3 := (box_at hb4).2.2.2
      simp only [Oper.gives]
      go_simp
      exact ⟨is_mk _ _, Grow.refl _⟩
    case o29 =>
      intro vals wq hRq hpq
      simp only [factsP, List.getD_cons_zero, List.getD_cons_succ] at hpq
      have f27 := hpq.1
      replace hpq := hpq.2
      have f28 := hpq.1
      replace hpq := hpq.2
      clear hpq
      replace f27 : vals 27 = _ := f27
      replace f28 : vals 28 = _ := f28
      simp only [List.getD_cons_zero, List.getD_cons_succ, canonP, f27, f28]
      clear f27 f28
      simp only [Oper.gives]
      go_simp
      exact (HDL.out wq).mono fun e w' ⟨he, hg⟩ => ⟨_, he, is_mk _ _, hg⟩
    case o30 =>
      intro vals wq hRq hpq
      simp only [factsP, List.getD_cons_zero, List.getD_cons_succ] at hpq
      have f27 := hpq.1
      replace hpq := hpq.2
      clear hpq
      replace f27 : vals 27 = _ := f27
      simp only [List.getD_cons_zero, List.getD_cons_succ, canonP, f27]
      clear f27
      simp only [Oper.gives]
      go_simp
      exact ⟨is_mk _ _, Grow.refl _⟩
    case o31 =>
      intro vals wq hRq hpq
      simp only [factsP, List.getD_cons_zero, List.getD_cons_succ] at hpq
      have f27 := hpq.1
      replace hpq := hpq.2
      have f30 := hpq.1
      replace hpq := hpq.2
      clear hpq
      replace f27 : vals 27 = _ := f27
      replace f30 : vals 30 = _ := f30
      simp only [List.getD_cons_zero, List.getD_cons_succ, canonP, f27, f30]
      clear f27 f30
      have hb4 := HG2.out.trans ((Grow.drew _).trans hRq)
      have c0 := (box_at hb4).1
      have c1 := (box_at hb4).2.1
      have c2 := (box_at hb4).2.2.1
      have c3 := (box_at hb4).2.2.2
      simp only [Oper.gives]
      go_simp
      exact ⟨is_mk _ _, Grow.refl _⟩
    case o32 =>
      intro vals wq hRq hpq
      simp only [factsP, List.getD_cons_zero, List.getD_cons_succ] at hpq
      have f27 := hpq.1
      replace hpq := hpq.2
      have f31 := hpq.1
      replace hpq := hpq.2
      clear hpq
      replace f27 : vals 27 = _ := f27
      replace f31 : vals 31 = _ := f31
      simp only [List.getD_cons_zero, List.getD_cons_succ, canonP, f27, f31]
      clear f27 f31
      have hh0 := E5.out
      simp only [Oper.gives]
      go_simp
      exact ⟨is_mk _ _, Grow.refl _⟩
    case o33 =>
      intro vals wq hRq hpq
      simp only [factsP, List.getD_cons_zero, List.getD_cons_succ] at hpq
      have f27 := hpq.1
      replace hpq := hpq.2
      clear hpq
      replace f27 : vals 27 = _ := f27
      simp only [List.getD_cons_zero, List.getD_cons_succ, canonP, f27]
      clear f27
      simp only [Oper.gives]
      go_simp
      exact ⟨is_mk _ _, Grow.refl _⟩
    case o34 =>
      intro vals wq hRq hpq
      simp only [factsP, List.getD_cons_zero, List.getD_cons_succ] at hpq
      have f27 := hpq.1
      replace hpq := hpq.2
      have f33 := hpq.1
      replace hpq := hpq.2
      clear hpq
      replace f27 : vals 27 = _ := f27
      replace f33 : vals 33 = _ := f33
      simp only [List.getD_cons_zero, List.getD_cons_succ, canonP, f27, f33]
      clear f27 f33
      have hb4 := HG2.out.trans ((Grow.drew _).trans hRq)
      have c0 := (box_at hb4).1
      have c1 := (box_at hb4).2.1
      have c2 := (box_at hb4).2.2.1
      have c3 := (box_at hb4).2.2.2
      simp only [Oper.gives]
      go_simp
      exact ⟨is_mk _ _, Grow.refl _⟩
    case o35 =>
      intro vals wq hRq hpq
      simp only [factsP, List.getD_cons_zero, List.getD_cons_succ] at hpq
      have f27 := hpq.1
      replace hpq := hpq.2
      have f34 := hpq.1
      replace hpq := hpq.2
      clear hpq
      replace f27 : vals 27 = _ := f27
      replace f34 : vals 34 = _ := f34
      simp only [List.getD_cons_zero, List.getD_cons_succ, canonP, f27, f34]
      clear f27 f34
      have hh0 := E6.out
      have hh1 := E6b.out
      simp only [Oper.gives]
      go_simp
      exact ⟨is_mk _ _, Grow.refl _⟩
    case o36 =>
      intro vals wq hRq hpq
      simp only [factsP, List.getD_cons_zero, List.getD_cons_succ] at hpq
      have f27 := hpq.1
      replace hpq := hpq.2
      have f32 := hpq.1
      replace hpq := hpq.2
      have f35 := hpq.1
      replace hpq := hpq.2
      clear hpq
      replace f27 : vals 27 = _ := f27
      replace f32 : vals 32 = _ := f32
      replace f35 : vals 35 = _ := f35
      simp only [List.getD_cons_zero, List.getD_cons_succ, canonP, f27, f32, f35]
      clear f27 f32 f35
      have hh0 := E7.out
      simp only [Oper.gives]
      go_simp
      exact ⟨is_mk _ _, Grow.refl _⟩
    case o37 =>
      intro vals wq hRq hpq
      simp only [factsP, List.getD_cons_zero, List.getD_cons_succ] at hpq
      have f27 := hpq.1
      replace hpq := hpq.2
      have f29 := hpq.1
      replace hpq := hpq.2
      have f36 := hpq.1
      replace hpq := hpq.2
      clear hpq
      replace f27 : vals 27 = _ := f27
      replace f29 : vals 29 = _ := f29
      replace f36 : vals 36 = _ := f36
      simp only [List.getD_cons_zero, List.getD_cons_succ, canonP, f27, f29, f36]
      clear f27 f29 f36
      simp only [Oper.gives]
      go_simp
      exact ⟨is_mk _ _, Grow.refl _⟩
    case o38 =>
      intro vals wq hRq hpq
      simp only [factsP, List.getD_cons_zero, List.getD_cons_succ] at hpq
      have f27 := hpq.1
      replace hpq := hpq.2
      have f37 := hpq.1
      replace hpq := hpq.2
      clear hpq
      replace f27 : vals 27 = _ := f27
      replace f37 : vals 37 = _ := f37
      simp only [List.getD_cons_zero, List.getD_cons_succ, canonP, f27, f37]
      clear f27 f37
      simp only [Oper.gives]
      go_simp
      exact ⟨is_mk _ _, Grow.refl _⟩
    case o39 =>
      intro vals wq hRq hpq
      simp only [factsP, List.getD_cons_zero, List.getD_cons_succ] at hpq
      have f29 := hpq.1
      replace hpq := hpq.2
      have f38 := hpq.1
      replace hpq := hpq.2
      clear hpq
      replace f29 : vals 29 = _ := f29
      replace f38 : vals 38 = _ := f38
      simp only [List.getD_cons_zero, List.getD_cons_succ, canonP, f29, f38]
      clear f29 f38
      simp only [Oper.gives]
      go_simp
      exact ⟨is_mk _ _, Grow.refl _⟩
    case o40 =>
      intro vals wq hRq hpq
      simp only [factsP, List.getD_cons_zero, List.getD_cons_succ] at hpq
      have f39 := hpq.1
      replace hpq := hpq.2
      clear hpq
      replace f39 : vals 39 = _ := f39
      simp only [List.getD_cons_zero, List.getD_cons_succ, canonP, f39]
      clear f39
      have hb4 := HG2.out.trans ((Grow.drew _).trans hRq)
      have c0 := (box_at hb4).1
      have c1 := (box_at hb4).2.1
      have c2 := (box_at hb4).2.2.1
      have c3 := (box_at hb4).2.2.2
      simp only [Oper.gives]
      go_simp
      exact ⟨is_mk _ _, Grow.refl _⟩
    case o41 =>
      intro vals wq hRq hpq
      simp only [factsP, List.getD_cons_zero, List.getD_cons_succ] at hpq
      have f39 := hpq.1
      replace hpq := hpq.2
      have f40 := hpq.1
      replace hpq := hpq.2
      clear hpq
      replace f39 : vals 39 = _ := f39
      replace f40 : vals 40 = _ := f40
      simp only [List.getD_cons_zero, List.getD_cons_succ, canonP, f39, f40]
      clear f39 f40
      simp only [Oper.gives]
      go_simp
      exact (HDL.out wq).mono fun e w' ⟨he, hg⟩ => ⟨_, he, is_mk _ _, hg⟩
    case o42 =>
      intro vals wq hRq hpq
      simp only [factsP, List.getD_cons_zero, List.getD_cons_succ] at hpq
      have f39 := hpq.1
      replace hpq := hpq.2
      have f41 := hpq.1
      replace hpq := hpq.2
      clear hpq
      replace f39 : vals 39 = _ := f39
      replace f41 : vals 41 = _ := f41
      simp only [List.getD_cons_zero, List.getD_cons_succ, canonP, f39, f41]
      clear f39 f41
      have hh0 := B2.out
      simp only [Oper.gives]
      go_simp
      exact ⟨is_mk _ _, Grow.refl _⟩
    case o43 =>
      intro vals wq hRq hpq
      simp only [factsP, List.getD_cons_zero, List.getD_cons_succ] at hpq
      have f39 := hpq.1
      replace hpq := hpq.2
      have f42 := hpq.1
      replace hpq := hpq.2
      clear hpq
      replace f39 : vals 39 = _ := f39
      replace f42 : vals 42 = _ := f42
      simp only [List.getD_cons_zero, List.getD_cons_succ, canonP, f39, f42]
      clear f39 f42
      simp only [Oper.gives]
      go_simp
      exact ⟨is_mk _ _, Grow.refl _⟩
    case o44 =>
      intro vals wq hRq hpq
      simp only [factsP, List.getD_cons_zero, List.getD_cons_succ] at hpq
      have f0 := hpq.1
      replace hpq := hpq.2
      have f1 := hpq.1
      replace hpq := hpq.2
      have f2 := hpq.1
      replace hpq := hpq.2
      have f3 := hpq.1
      replace hpq := hpq.2
      have f4 := hpq.1
      replace hpq := hpq.2
      have f5 := hpq.1
      replace hpq := hpq.2
      have f6 := hpq.1
      replace hpq := hpq.2
      have f7 := hpq.1
      replace hpq := hpq.2
      have f8 := hpq.1
      replace hpq := hpq.2
      have f9 := hpq.1
      replace hpq := hpq.2
      have f10 := hpq.1
      replace hpq := hpq.2
      have f11 := hpq.1
      replace hpq := hpq.2
      have f12 := hpq.1
      replace hpq := hpq.2
      have f13 := hpq.1
      replace hpq := hpq.2
      have f14 := hpq.1
      replace hpq := hpq.2
      have f15 := hpq.1
      replace hpq := hpq.2
      have f16 := hpq.1
      replace hpq := hpq.2
      have f17 := hpq.1
      replace hpq := hpq.2
      have f18 := hpq.1
      replace hpq := hpq.2
      have f19 := hpq.1
      replace hpq := hpq.2
      have f20 := hpq.1
      replace hpq := hpq.2
      have f21 := hpq.1
      replace hpq := hpq.2
      have f22 := hpq.1
      replace hpq := hpq.2
      have f23 := hpq.1
      replace hpq := hpq.2
      have f24 := hpq.1
      replace hpq := hpq.2
      have f25 := hpq.1
      replace hpq := hpq.2
      have f26 := hpq.1
      replace hpq := hpq.2
      have f27 := hpq.1
      replace hpq := hpq.2
      have f28 := hpq.1
      replace hpq := hpq.2
      have f29 := hpq.1
      replace hpq := hpq.2
      have f30 := hpq.1
      replace hpq := hpq.2
      have f31 := hpq.1
      replace hpq := hpq.2
      have f32 := hpq.1
      replace hpq := hpq.2
      have f33 := hpq.1
      replace hpq := hpq.2
      have f34 := hpq.1
      replace hpq := hpq.2
      have f35 := hpq.1
      replace hpq := hpq.2
      have f36 := hpq.1
      replace hpq := hpq.2
      have f37 := hpq.1
      replace hpq := hpq.2
      have f38 := hpq.1
      replace hpq := hpq.2
      have f39 := hpq.1
      replace hpq := hpq.2
      have f40 := hpq.1
      replace hpq := hpq.2
      have f41 := hpq.1
      replace hpq := hpq.2
      have f42 := hpq.1
      replace hpq := hpq.2
      have f43 := hpq.1
      replace hpq := hpq.2
      clear hpq
      replace f0 : vals 0 = _ := f0
      replace f1 : vals 1 = _ := f1
      replace f2 : vals 2 = _ := f2
      replace f3 : vals 3 = _ := f3
      replace f4 : vals 4 = _ := f4
      replace f5 : vals 5 = _ := f5
      replace f6 : vals 6 = _ := f6
      replace f7 : vals 7 = _ := f7
      replace f8 : vals 8 = _ := f8
      replace f9 : vals 9 = _ := f9
      replace f10 : vals 10 = _ := f10
      replace f11 : vals 11 = _ := f11
      replace f12 : vals 12 = _ := f12
      replace f13 : vals 13 = _ := f13
      replace f14 : vals 14 = _ := f14
      replace f15 : vals 15 = _ := f15
      replace f16 : vals 16 = _ := f16
      replace f17 : vals 17 = _ := f17
      replace f18 : vals 18 = _ := f18
      replace f19 : vals 19 = _ := f19
      replace f20 : vals 20 = _ := f20
      replace f21 : vals 21 = _ := f21
      replace f22 : vals 22 = _ := f22
      replace f23 : vals 23 = _ := f23
      replace f24 : vals 24 = _ := f24
      replace f25 : vals 25 = _ := f25
      replace f26 : vals 26 = _ := f26
      replace f27 : vals 27 = _ := f27
      replace f28 : vals 28 = _ := f28
      replace f29 : vals 29 = _ := f29
      replace f30 : vals 30 = _ := f30
      replace f31 : vals 31 = _ := f31
      replace f32 : vals 32 = _ := f32
      replace f33 : vals 33 = _ := f33
      replace f34 : vals 34 = _ := f34
      replace f35 : vals 35 = _ := f35
      replace f36 : vals 36 = _ := f36
      replace f37 : vals 37 = _ := f37
      replace f38 : vals 38 = _ := f38
      replace f39 : vals 39 = _ := f39
      replace f40 : vals 40 = _ := f40
      replace f41 : vals 41 = _ := f41
      replace f42 : vals 42 = _ := f42
      replace f43 : vals 43 = _ := f43
      simp only [List.getD_cons_zero, List.getD_cons_succ, canonP, f0, f1, f2, f3, f4, f5, f6, f7, f8, f9, f10, f11, f12, f13, f14, f15, f16, f17, f18, f19, f20, f21, f22, f23, f24, f25, f26, f27, f28, f29, f30, f31, f32, f33, f34, f35, f36, f37, f38, f39, f40, f41, f42, f43]
      clear f0 f1 f2 f3 f4 f5 f6 f7 f8 f9 f10 f11 f12 f13 f14 f15 f16 f17 f18 f19 f20 f21 f22 f23 f24 f25 f26 f27 f28 f29 f30 f31 f32 f33 f34 f35 f36 f37 f38 f39 f40 f41 f42 f43
      simp only [Oper.gives]
      go_simp
      exact ⟨is_mk _ _, Grow.refl _⟩
    intro vals wz hRwz hfwz
    simp only [AllFacts] at hfwz
    have g0 := hfwz.1
    replace hfwz := hfwz.2
    have g1 := hfwz.1
    replace hfwz := hfwz.2
    have g2 := hfwz.1
    replace hfwz := hfwz.2
    have g3 := hfwz.1
    replace hfwz := hfwz.2
    have g4 := hfwz.1
    replace hfwz := hfwz.2
    have g5 := hfwz.1
    replace hfwz := hfwz.2
    have g6 := hfwz.1
    replace hfwz := hfwz.2
    have g7 := hfwz.1
    replace hfwz := hfwz.2
    have g8 := hfwz.1
    replace hfwz := hfwz.2
    have g9 := hfwz.1
    replace hfwz := hfwz.2
    have g10 := hfwz.1
    replace hfwz := hfwz.2
    have g11 := hfwz.1
    replace hfwz := hfwz.2
    have g12 := hfwz.1
    replace hfwz := hfwz.2
    have g13 := hfwz.1
    replace hfwz := hfwz.2
    have g14 := hfwz.1
    replace hfwz := hfwz.2
    have g15 := hfwz.1
    replace hfwz := hfwz.2
    have g16 := hfwz.1
    replace hfwz := hfwz.2
    have g17 := hfwz.1
    replace hfwz := hfwz.2
    have g18 := hfwz.1
    replace hfwz := hfwz.2
    have g19 := hfwz.1
    replace hfwz := hfwz.2
    have g20 := hfwz.1
    replace hfwz := hfwz.2
    have g21 := hfwz.1
    replace hfwz := hfwz.2
    have g22 := hfwz.1
    replace hfwz := hfwz.2
    have g23 := hfwz.1
    replace hfwz := hfwz.2
    have g24 := hfwz.1
    replace hfwz := hfwz.2
    have g25 := hfwz.1
    replace hfwz := hfwz.2
    have g26 := hfwz.1
    replace hfwz := hfwz.2
    have g27 := hfwz.1
    replace hfwz := hfwz.2
    have g28 := hfwz.1
    replace hfwz := hfwz.2
    have g29 := hfwz.1
    replace hfwz := hfwz.2
    have g30 := hfwz.1
    replace hfwz := hfwz.2
    have g31 := hfwz.1
    replace hfwz := hfwz.2
    have g32 := hfwz.1
    replace hfwz := hfwz.2
    have g33 := hfwz.1
    replace hfwz := hfwz.2
    have g34 := hfwz.1
    replace hfwz := hfwz.2
    have g35 := hfwz.1
    replace hfwz := hfwz.2
    have g36 := hfwz.1
    replace hfwz := hfwz.2
    have g37 := hfwz.1
    replace hfwz := hfwz.2
    have g38 := hfwz.1
    replace hfwz := hfwz.2
    have g39 := hfwz.1
    replace hfwz := hfwz.2
    have g40 := hfwz.1
    replace hfwz := hfwz.2
    have g41 := hfwz.1
    replace hfwz := hfwz.2
    have g42 := hfwz.1
    replace hfwz := hfwz.2
    have g43 := hfwz.1
    replace hfwz := hfwz.2
    have g44 := hfwz.1
    replace hfwz := hfwz.2
    clear hfwz
    replace g0 : vals 0 = _ := g0
    replace g1 : vals 1 = _ := g1
    replace g2 : vals 2 = _ := g2
    replace g3 : vals 3 = _ := g3
    replace g4 : vals 4 = _ := g4
    replace g5 : vals 5 = _ := g5
    replace g6 : vals 6 = _ := g6
    replace g7 : vals 7 = _ := g7
    replace g8 : vals 8 = _ := g8
    replace g9 : vals 9 = _ := g9
    replace g10 : vals 10 = _ := g10
    replace g11 : vals 11 = _ := g11
    replace g12 : vals 12 = _ := g12
    replace g13 : vals 13 = _ := g13
    replace g14 : vals 14 = _ := g14
    replace g15 : vals 15 = _ := g15
    replace g16 : vals 16 = _ := g16
    replace g17 : vals 17 = _ := g17
    replace g18 : vals 18 = _ := g18
    replace g19 : vals 19 = _ := g19
    replace g20 : vals 20 = _ := g20
    replace g21 : vals 21 = _ := g21
    replace g22 : vals 22 = _ := g22
    replace g23 : vals 23 = _ := g23
    replace g24 : vals 24 = _ := g24
    replace g25 : vals 25 = _ := g25
    replace g26 : vals 26 = _ := g26
    replace g27 : vals 27 = _ := g27
    replace g28 : vals 28 = _ := g28
    replace g29 : vals 29 = _ := g29
    replace g30 : vals 30 = _ := g30
    replace g31 : vals 31 = _ := g31
    replace g32 : vals 32 = _ := g32
    replace g33 : vals 33 = _ := g33
    replace g34 : vals 34 = _ := g34
    replace g35 : vals 35 = _ := g35
    replace g36 : vals 36 = _ := g36
    replace g37 : vals 37 = _ := g37
    replace g38 : vals 38 = _ := g38
    replace g39 : vals 39 = _ := g39
    replace g40 : vals 40 = _ := g40
    replace g41 : vals 41 = _ := g41
    replace g42 : vals 42 = _ := g42
    replace g43 : vals 43 = _ := g43
    replace g44 : vals 44 = _ := g44
    simp only [canonP, Act.put, List.setIfInBounds_toArray, List.set_cons_succ, List.set_cons_zero, g0, g1, g2, g3, g4, g5, g6, g7, g8, g9, g10, g11, g12, g13, g14, g15, g16, g17, g18, g19, g20, g21, g22, g23, g24, g25, g26, g27, g28, g29, g30, g31, g32, g33, g34, g35, g36, g37, g38, g39, g40, g41, g42, g43, g44]
    clear g0 g1 g2 g3 g4 g5 g6 g7 g8 g9 g10 g11 g12 g13 g14 g15 g16 g17 g18 g19 g20 g21 g22 g23 g24 g25 g26 g27 g28 g29 g30 g31 g32 g33 g34 g35 g36 g37 g38 g39 g40 g41 g42 g43 g44
    go_wp2_with fail
    go_ret
    exact ⟨rfl, (Grow.alloc _ _).trans (HG2.out.trans ((Grow.drew _).trans hRwz))⟩
  · have HM := Lib.hid h
    have HE1 : nBlocks gr sz ni jr = 0 := if_neg h
    have HE2 : nInodes gr sz ni jr = 0 := if_neg h
    have HE3 : nData gr sz ni jr = 0 := if_neg h
    have HBL := Lib.hid HE1
    have HNL := Lib.hid HE2
    have HDL := Lib.hid HE3
    clear h HE1 HE2 HE3
    go_enter Try.func7, Try.ntmps7
    go_wp2_with fail
    refine (awake_ok _).mono ?_
    rintro e w1 ⟨rfl, hg1⟩
    obtain ⟨c0, c1, c2, c3⟩ := box_at hg1
    have HG1 := Lib.hid hg1
    clear hg1
    go_wp2_with fail
    refine (may_no gr sz ni jr HM.out _).mono ?_
    rintro e w2 ⟨rfl, hg2⟩
    have HG2 := Lib.hid (HG1.out.trans hg2)
    clear hg2 c0 c1 c2 c3
    obtain ⟨c0, c1, c2, c3⟩ := box_at HG2.out
    go_wp2_with fail
    refine (blocks_any gr sz ni jr _).mono ?_
    rintro e w3 ⟨rfl, hg2⟩
    rw [HBL.out]
    have HG3 := Lib.hid (HG2.out.trans hg2)
    clear hg2 c0 c1 c2 c3
    obtain ⟨c0, c1, c2, c3⟩ := box_at HG3.out
    go_wp2_with fail
    refine (inodes_any gr sz ni jr _).mono ?_
    rintro e w4 ⟨rfl, hg2⟩
    rw [HNL.out]
    have HG4 := Lib.hid (HG3.out.trans hg2)
    clear hg2 c0 c1 c2 c3
    obtain ⟨c0, c1, c2, c3⟩ := box_at HG4.out
    go_wp2_with fail
    refine (data_any gr sz ni jr _).mono ?_
    rintro e w5 ⟨rfl, hg2⟩
    rw [HDL.out]
    have HG5 := Lib.hid (HG4.out.trans hg2)
    clear hg2 c0 c1 c2 c3
    go_wp2_with fail
    go_ret
    exact ⟨rfl, (Grow.alloc _ _).trans HG5.out⟩
#print axioms sizes_walk
end Go.Proofs.Ytgakdaohhbdjoaa
