/- replay.Do of no transactions, by the chapter's geometry. -/
import Derived.Test.YtlhhbkpocpnebaaP14
import Derived.Test.YtlhhbkpocpnebaaP10
import Derived.Test.YtlhhbkpocpnebaaD14
set_option linter.unusedVariables false
set_option linter.unusedSimpArgs false
namespace Go.Proofs.Ytlhhbkpocpnebaa
open Go.RowKit Go.Maps

theorem IsDisk.lt {w : World} {B : Nat} {S : List Nat} {d : DS} (h : IsDisk w B S d) : ∀ k ∈ S, k < w.heap.size := by
  obtain ⟨gs, cs, gl, cl, vw, h⟩ := h
  exact h.lt
theorem gmay (w : World) : Calls Try.prog 39 #[.agg #[.int .i64 1, .int .i64 16, .int .i64 4, .int .i64 40]] w fun e w' => e = .returned (.bool true) ∧ Grow w w' := by
  go_enter Try.func39, Try.ntmps39
  go_wp2
  go_ret
  exact ⟨rfl, Grow.alloc _ _⟩
theorem gblocks (w : World) : Calls Try.prog 40 #[.agg #[.int .i64 1, .int .i64 16, .int .i64 4, .int .i64 40]] w fun e w' => e = .returned (.int .i64 58) ∧ Grow w w' := by
  have HP0 := Lib.hid (heap_alloc_last w (.cells #[.int .i64 1, .int .i64 16, .int .i64 4, .int .i64 40] 43))
  have HG0 := Lib.hid (Grow.alloc w (.cells #[.int .i64 1, .int .i64 16, .int .i64 4, .int .i64 40] 43))
  have HS0 := Lib.hid (show w.heap.size < (w.alloc (.cells #[.int .i64 1, .int .i64 16, .int .i64 4, .int .i64 40] 43)).heap.size by simp)
  go_enter Try.func40, Try.ntmps40
  go_wp2_with (first | (refine wpList_load_row rfl _ _ rfl w.heap.size rfl 43 #[.int .i64 1, .int .i64 16, .int .i64 4, .int .i64 40] (0, 0) _ HP0.out Try.underlying43 rfl sizeGeo ?_))
  refine (gmay _).mono ?_
  intro e w2 hpost
  obtain ⟨he, hg⟩ := hpost
  subst he
  have hb := (hg.block _ HS0.out).trans HP0.out
  have c0 : w2.cell? ⟨w.heap.size, 0, none⟩ = some (.int .i64 1) := cell_at hb 0
  have c1 : w2.cell? ⟨w.heap.size, 1, none⟩ = some (.int .i64 16) := cell_at hb 1
  have c3 : w2.cell? ⟨w.heap.size, 3, none⟩ = some (.int .i64 40) := cell_at hb 3
  have HG := Lib.hid (Grow.trans HG0.out hg)
  clear hb hg
  go_wp2
  go_ret
  exact ⟨rfl, HG.out⟩
theorem outside_nil (w : World) : Calls Try.prog 41 #[.agg #[.int .i64 1, .int .i64 16, .int .i64 4, .int .i64 40], .slice none 0 0] w fun e w' => e = .returned (.bool true) ∧ Grow w w' := by
  go_enter Try.func41, Try.ntmps41
  go_wp2
  refine wp_loop_rounds 1 ?_
  rw [rounds_succ]
  go_wp2
  go_ret
  exact ⟨rfl, Grow.alloc _ _⟩
theorem blocks58 {w : World} {B : Nat} {S : List Nat} {d : DS} (h : IsDisk w B S d) (hl : d.safe.length = 58) : Calls Try.prog 38 #[.pointer (some ⟨B, 0, none⟩)] w fun e w' => e = .returned (.int .i64 58) ∧ w = w' :=
  (blocks_any h).mono fun e w' ⟨he, hw⟩ => ⟨by rw [he, hl]; rfl, hw⟩
set_option maxRecDepth 100000 in
set_option maxHeartbeats 4000000 in
theorem do_bad {w : World} {B : Nat} {S : List Nat} {d : DS} (h : IsDisk w B S d) (hl : d.safe.length = 58) : Calls Try.prog 20 #[.pointer (some ⟨B, 0, none⟩), .agg #[.int .i64 1, .int .i64 16, .int .i64 4, .int .i64 40], .slice none 0 0, .int .u32 0] w fun e w' => e = .returned (.int .i64 2) ∧ Grow w w' := by
  have HDL := Lib.hid hl
  have HG0 := Lib.hid (Grow.alloc w (.cells #[.int .i64 1, .int .i64 16, .int .i64 4, .int .i64 40] 43))
  have HP0 := Lib.hid (heap_alloc_last w (.cells #[.int .i64 1, .int .i64 16, .int .i64 4, .int .i64 40] 43))
  have HD0 := Lib.hid (h.kept (Touch.alloc [] w (.cells #[.int .i64 1, .int .i64 16, .int .i64 4, .int .i64 40] 43)) (by simp))
  have HSL := Lib.hid h.lt
  have HS0 := Lib.hid (show w.heap.size < (w.alloc (.cells #[.int .i64 1, .int .i64 16, .int .i64 4, .int .i64 40] 43)).heap.size by simp)
  clear h
  go_enter Try.func20, Try.ntmps20
  go_wp2_with fail
  obtain ⟨W0, hW0⟩ : ∃ W0, W0 = w.alloc (.cells #[.int .i64 1, .int .i64 16, .int .i64 4, .int .i64 40] 43) := ⟨_, rfl⟩
  rw [← hW0] at HG0 HP0 HD0 HS0 ⊢
  clear hW0
  refine (blocks58 HD0.out HDL.out).mono ?_
  intro e w' hpost
  obtain ⟨he, hw⟩ := hpost
  subst he hw
  go_wp2_with (first | (refine wpList_load_row rfl _ _ rfl w.heap.size rfl 43 #[.int .i64 1, .int .i64 16, .int .i64 4, .int .i64 40] (0, 0) _ HP0.out Try.underlying43 rfl sizeGeo ?_))
  refine (gmay W0).mono ?_
  intro e W1 hpost
  obtain ⟨he, hg⟩ := hpost
  subst he
  have HG1 := Lib.hid (Grow.trans HG0.out hg)
  have HPG := Lib.hid ((hg.block w.heap.size HS0.out).trans HP0.out)
  have HPL := Lib.hid (Nat.lt_of_lt_of_le HS0.out hg.size)
  have HD := Lib.hid (HD0.out.kept (Touch.of_below (S := []) hg) (by simp))
  obtain ⟨PG, hPG⟩ : ∃ PG, PG = w.heap.size := ⟨_, rfl⟩
  rw [← hPG] at HPG HPL ⊢
  clear hg hPG HG0 HP0 HD0 HS0
  go_upto_region 5 with (fail)
  refine wp_region_facts (by kernel_rfl) [[], [(0, some 22)], [], [(1, some 23), (2, some 24)], [(1, some 23), (3, some 25)], [(3, some 25), (4, some 26)], [(5, some 27)], [(5, some 27)], [(5, some 27), (6, some 28), (7, some 29)], [(5, some 27), (8, some 30)], [(5, some 27), (9, some 31)], [(8, some 30), (10, some 32)], [(11, some 33)], [(11, some 33), (12, some 34)], [(11, some 33), (13, some 35)], [(11, some 33), (14, some 36)], [(15, some 37)], [(15, some 37), (16, some 38)], [(15, some 37), (17, some 39)]] [(0, some 22), (1, some 23), (2, some 24), (3, some 25), (4, some 26), (5, some 27), (6, some 28), (7, some 29), (8, some 30), (9, some 31), (10, some 32), (11, some 33), (12, some 34), (13, some 35), (14, some 36), (15, some 37), (16, some 38), (17, some 39), (18, some 40)] (by kernel_rfl) (by kernel_rfl) (by kernel_rfl) (Touch []) (Touch.refl []) (fun _ _ _ h h' => h.trans h' (fun i hi => .inl hi)) [Is (Value.pointer (some ⟨B, 0, none⟩)), Is (Value.int .i64 58), Is (Value.agg #[.int .i64 1, .int .i64 16, .int .i64 4, .int .i64 40]), Is (Value.int .i64 58), Is (Value.bool false), Is (Value.bool false), Is (Value.agg #[.int .i64 1, .int .i64 16, .int .i64 4, .int .i64 40]), Is (Value.slice none 0 0), Is (Value.bool true), Is (Value.bool false), Is (Value.bool false), Is (Value.bool false), Is (Value.int .u32 0), Is (Value.bool true), Is (Value.bool true), Is (Value.bool true), Is (undef), Is (undef), Is (Value.bool true)] rfl ⟨is_stab _ _, is_stab _ _, is_stab _ _, is_stab _ _, is_stab _ _, is_stab _ _, is_stab _ _, is_stab _ _, is_stab _ _, is_stab _ _, is_stab _ _, is_stab _ _, is_stab _ _, is_stab _ _, is_stab _ _, is_stab _ _, is_stab _ _, is_stab _ _, is_stab _ _, trivial⟩ ⟨?o0, ?o1, ?o2, ?o3, ?o4, ?o5, ?o6, ?o7, ?o8, ?o9, ?o10, ?o11, ?o12, ?o13, ?o14, ?o15, ?o16, ?o17, ?o18, trivial⟩ ?_
  case o0 =>
    intro vals wq hRq hpq
    simp only [List.getD_cons_zero, List.getD_cons_succ, canonP]
    simp only [Oper.gives]
    go_simp
    exact ⟨is_mk _ _, (Touch.refl []) _⟩
  case o1 =>
    intro vals wq hRq hpq
    simp only [factsP, List.getD_cons_zero, List.getD_cons_succ] at hpq
    have f0 := hpq.1
    replace hpq := hpq.2
    clear hpq
    replace f0 : vals 0 = _ := f0
    simp only [List.getD_cons_zero, List.getD_cons_succ, canonP, f0]
    clear f0
    simp only [Oper.gives]
    go_simp
    exact (blocks58 (HD.out.kept ((Touch.drew [] W1).trans hRq (by simp)) (by simp)) HDL.out).mono fun e w' ⟨he, hw⟩ => ⟨_, he, is_mk _ _, hw ▸ Touch.refl _ _⟩
  case o2 =>
    intro vals wq hRq hpq
    simp only [List.getD_cons_zero, List.getD_cons_succ, canonP]
    have hbx : wq.heap[PG]? = some (.cells #[.int .i64 1, .int .i64 16, .int .i64 4, .int .i64 40] 43) := (hRq.block PG HPL.out (by simp)).trans HPG.out
    rw [if_pos (by rfl)]
    exact gives_load_row 43 _ rfl PG rfl 43 #[.int .i64 1, .int .i64 16, .int .i64 4, .int .i64 40] (0, 0) _ hbx Try.underlying43 rfl sizeGeo ⟨is_mk _ _, Touch.refl _ _⟩
  case o3 =>
    intro vals wq hRq hpq
    simp only [factsP, List.getD_cons_zero, List.getD_cons_succ] at hpq
    have f1 := hpq.1
    replace hpq := hpq.2
    have f2 := hpq.1
    replace hpq := hpq.2
    clear hpq
    replace f1 : vals 1 = _ := f1
    replace f2 : vals 2 = _ := f2
    simp only [List.getD_cons_zero, List.getD_cons_succ, canonP, f1, f2]
    clear f1 f2
    simp only [Oper.gives]
    go_simp
    exact (gblocks wq).mono fun e w' ⟨he, hg⟩ => ⟨_, he, is_mk _ _, Touch.of_below hg⟩
  case o4 =>
    intro vals wq hRq hpq
    simp only [factsP, List.getD_cons_zero, List.getD_cons_succ] at hpq
    have f1 := hpq.1
    replace hpq := hpq.2
    have f3 := hpq.1
    replace hpq := hpq.2
    clear hpq
    replace f1 : vals 1 = _ := f1
    replace f3 : vals 3 = _ := f3
    simp only [List.getD_cons_zero, List.getD_cons_succ, canonP, f1, f3]
    clear f1 f3
    simp only [Oper.gives]
    go_simp
    exact ⟨is_mk _ _, (Touch.refl []) _⟩
  case o5 =>
    intro vals wq hRq hpq
    simp only [factsP, List.getD_cons_zero, List.getD_cons_succ] at hpq
    have f3 := hpq.1
    replace hpq := hpq.2
    have f4 := hpq.1
    replace hpq := hpq.2
    clear hpq
    replace f3 : vals 3 = _ := f3
    replace f4 : vals 4 = _ := f4
    simp only [List.getD_cons_zero, List.getD_cons_succ, canonP, f3, f4]
    clear f3 f4
    simp only [Oper.gives]
    go_simp
    exact ⟨is_mk _ _, (Touch.refl []) _⟩
  case o6 =>
    intro vals wq hRq hpq
    simp only [factsP, List.getD_cons_zero, List.getD_cons_succ] at hpq
    have f5 := hpq.1
    replace hpq := hpq.2
    clear hpq
    replace f5 : vals 5 = _ := f5
    simp only [List.getD_cons_zero, List.getD_cons_succ, canonP, f5]
    clear f5
    have hbx : wq.heap[PG]? = some (.cells #[.int .i64 1, .int .i64 16, .int .i64 4, .int .i64 40] 43) := (hRq.block PG HPL.out (by simp)).trans HPG.out
    rw [if_pos (by rfl)]
    exact gives_load_row 43 _ rfl PG rfl 43 #[.int .i64 1, .int .i64 16, .int .i64 4, .int .i64 40] (0, 0) _ hbx Try.underlying43 rfl sizeGeo ⟨is_mk _ _, Touch.refl _ _⟩
  case o7 =>
    intro vals wq hRq hpq
    simp only [factsP, List.getD_cons_zero, List.getD_cons_succ] at hpq
    have f5 := hpq.1
    replace hpq := hpq.2
    clear hpq
    replace f5 : vals 5 = _ := f5
    simp only [List.getD_cons_zero, List.getD_cons_succ, canonP, f5]
    clear f5
    simp only [Oper.gives]
    go_simp
    exact ⟨is_mk _ _, (Touch.refl []) _⟩
  case o8 =>
    intro vals wq hRq hpq
    simp only [factsP, List.getD_cons_zero, List.getD_cons_succ] at hpq
    have f5 := hpq.1
    replace hpq := hpq.2
    have f6 := hpq.1
    replace hpq := hpq.2
    have f7 := hpq.1
    replace hpq := hpq.2
    clear hpq
    replace f5 : vals 5 = _ := f5
    replace f6 : vals 6 = _ := f6
    replace f7 : vals 7 = _ := f7
    simp only [List.getD_cons_zero, List.getD_cons_succ, canonP, f5, f6, f7]
    clear f5 f6 f7
    simp only [Oper.gives]
    go_simp
    exact (outside_nil wq).mono fun e w' ⟨he, hg⟩ => ⟨_, he, is_mk _ _, Touch.of_below hg⟩
  case o9 =>
    intro vals wq hRq hpq
    simp only [factsP, List.getD_cons_zero, List.getD_cons_succ] at hpq
    have f5 := hpq.1
    replace hpq := hpq.2
    have f8 := hpq.1
    replace hpq := hpq.2
    clear hpq
    replace f5 : vals 5 = _ := f5
    replace f8 : vals 8 = _ := f8
    simp only [List.getD_cons_zero, List.getD_cons_succ, canonP, f5, f8]
    clear f5 f8
    simp only [Oper.gives]
    go_simp
    exact ⟨is_mk _ _, (Touch.refl []) _⟩
  case o10 =>
    intro vals wq hRq hpq
    simp only [factsP, List.getD_cons_zero, List.getD_cons_succ] at hpq
    have f5 := hpq.1
    replace hpq := hpq.2
    have f9 := hpq.1
    replace hpq := hpq.2
    clear hpq
    replace f5 : vals 5 = _ := f5
    replace f9 : vals 9 = _ := f9
    simp only [List.getD_cons_zero, List.getD_cons_succ, canonP, f5, f9]
    clear f5 f9
    simp only [Oper.gives]
    go_simp
    exact ⟨is_mk _ _, (Touch.refl []) _⟩
  case o11 =>
    intro vals wq hRq hpq
    simp only [factsP, List.getD_cons_zero, List.getD_cons_succ] at hpq
    have f8 := hpq.1
    replace hpq := hpq.2
    have f10 := hpq.1
    replace hpq := hpq.2
    clear hpq
    replace f8 : vals 8 = _ := f8
    replace f10 : vals 10 = _ := f10
    simp only [List.getD_cons_zero, List.getD_cons_succ, canonP, f8, f10]
    clear f8 f10
    simp only [Oper.gives]
    go_simp
    exact ⟨is_mk _ _, (Touch.refl []) _⟩
  case o12 =>
    intro vals wq hRq hpq
    simp only [factsP, List.getD_cons_zero, List.getD_cons_succ] at hpq
    have f11 := hpq.1
    replace hpq := hpq.2
    clear hpq
    replace f11 : vals 11 = _ := f11
    simp only [List.getD_cons_zero, List.getD_cons_succ, canonP, f11]
    clear f11
    simp only [Oper.gives]
    go_simp
    exact ⟨is_mk _ _, (Touch.refl []) _⟩
  case o13 =>
    intro vals wq hRq hpq
    simp only [factsP, List.getD_cons_zero, List.getD_cons_succ] at hpq
    have f11 := hpq.1
    replace hpq := hpq.2
    have f12 := hpq.1
    replace hpq := hpq.2
    clear hpq
    replace f11 : vals 11 = _ := f11
    replace f12 : vals 12 = _ := f12
    simp only [List.getD_cons_zero, List.getD_cons_succ, canonP, f11, f12]
    clear f11 f12
    simp only [Oper.gives]
    go_simp
    exact ⟨is_mk _ _, (Touch.refl []) _⟩
  case o14 =>
    intro vals wq hRq hpq
    simp only [factsP, List.getD_cons_zero, List.getD_cons_succ] at hpq
    have f11 := hpq.1
    replace hpq := hpq.2
    have f13 := hpq.1
    replace hpq := hpq.2
    clear hpq
    replace f11 : vals 11 = _ := f11
    replace f13 : vals 13 = _ := f13
    simp only [List.getD_cons_zero, List.getD_cons_succ, canonP, f11, f13]
    clear f11 f13
    simp only [Oper.gives]
    go_simp
    exact ⟨is_mk _ _, (Touch.refl []) _⟩
  case o15 =>
    intro vals wq hRq hpq
    simp only [factsP, List.getD_cons_zero, List.getD_cons_succ] at hpq
    have f11 := hpq.1
    replace hpq := hpq.2
    have f14 := hpq.1
    replace hpq := hpq.2
    clear hpq
    replace f11 : vals 11 = _ := f11
    replace f14 : vals 14 = _ := f14
    simp only [List.getD_cons_zero, List.getD_cons_succ, canonP, f11, f14]
    clear f11 f14
    simp only [Oper.gives]
    go_simp
    exact ⟨is_mk _ _, (Touch.refl []) _⟩
  case o16 =>
    intro vals wq hRq hpq
    simp only [factsP, List.getD_cons_zero, List.getD_cons_succ] at hpq
    have f15 := hpq.1
    replace hpq := hpq.2
    clear hpq
    replace f15 : vals 15 = _ := f15
    simp only [List.getD_cons_zero, List.getD_cons_succ, canonP, f15]
    clear f15
    simp only [Oper.gives]
    go_simp
    exact is_mk _ _
  case o17 =>
    intro vals wq hRq hpq
    simp only [factsP, List.getD_cons_zero, List.getD_cons_succ] at hpq
    have f15 := hpq.1
    replace hpq := hpq.2
    have f16 := hpq.1
    replace hpq := hpq.2
    clear hpq
    replace f15 : vals 15 = _ := f15
    replace f16 : vals 16 = _ := f16
    simp only [List.getD_cons_zero, List.getD_cons_succ, canonP, f15, f16]
    clear f15 f16
    simp only [Oper.gives]
    go_simp
    exact is_mk _ _
  case o18 =>
    intro vals wq hRq hpq
    simp only [factsP, List.getD_cons_zero, List.getD_cons_succ] at hpq
    have f15 := hpq.1
    replace hpq := hpq.2
    have f17 := hpq.1
    replace hpq := hpq.2
    clear hpq
    replace f15 : vals 15 = _ := f15
    replace f17 : vals 17 = _ := f17
    simp only [List.getD_cons_zero, List.getD_cons_succ, canonP, f15, f17]
    clear f15 f17
    simp only [Oper.gives]
    go_simp
    exact ⟨is_mk _ _, (Touch.refl []) _⟩
  intro vals W6 hRW6 hfW6
  simp only [AllFacts] at hfW6
  have g0 := hfW6.1
  replace hfW6 := hfW6.2
  have g1 := hfW6.1
  replace hfW6 := hfW6.2
  have g2 := hfW6.1
  replace hfW6 := hfW6.2
  have g3 := hfW6.1
  replace hfW6 := hfW6.2
  have g4 := hfW6.1
  replace hfW6 := hfW6.2
  have g5 := hfW6.1
  replace hfW6 := hfW6.2
  have g6 := hfW6.1
  replace hfW6 := hfW6.2
  have g7 := hfW6.1
  replace hfW6 := hfW6.2
  have g8 := hfW6.1
  replace hfW6 := hfW6.2
  have g9 := hfW6.1
  replace hfW6 := hfW6.2
  have g10 := hfW6.1
  replace hfW6 := hfW6.2
  have g11 := hfW6.1
  replace hfW6 := hfW6.2
  have g12 := hfW6.1
  replace hfW6 := hfW6.2
  have g13 := hfW6.1
  replace hfW6 := hfW6.2
  have g14 := hfW6.1
  replace hfW6 := hfW6.2
  have g15 := hfW6.1
  replace hfW6 := hfW6.2
  have g16 := hfW6.1
  replace hfW6 := hfW6.2
  have g17 := hfW6.1
  replace hfW6 := hfW6.2
  have g18 := hfW6.1
  replace hfW6 := hfW6.2
  clear hfW6
  replace g0 : vals 0 = _ := g0
  replace g1 : vals 1 = _ := g1
  replace g2 : vals 2 = _ := g2
  replace g3 : vals 3 = _ := g3
  replace g4 : vals 4 = _ := g4
  replace g5 : vals 5 = _ := g5
  replace g6 : vals 6 = _ := g6
  replace g7 : vals 7 = _ := g7
  replace g8 : vals 8 = _ := g8
  replace g9 : vals 9 = _ := g9
  replace g10 : vals 10 = _ := g10
  replace g11 : vals 11 = _ := g11
  replace g12 : vals 12 = _ := g12
  replace g13 : vals 13 = _ := g13
  replace g14 : vals 14 = _ := g14
  replace g15 : vals 15 = _ := g15
  replace g16 : vals 16 = _ := g16
  replace g17 : vals 17 = _ := g17
  replace g18 : vals 18 = _ := g18
  simp only [canonP, Act.put, List.setIfInBounds_toArray, List.set_cons_succ, List.set_cons_zero, g0, g1, g2, g3, g4, g5, g6, g7, g8, g9, g10, g11, g12, g13, g14, g15, g16, g17, g18]
  clear g0 g1 g2 g3 g4 g5 g6 g7 g8 g9 g10 g11 g12 g13 g14 g15 g16 g17 g18
  have HR6 := Lib.hid (show Grow W1 W6 from ((Touch.drew [] W1).trans hRW6 (by simp)).below (Nat.le_refl _) (by simp))
  clear hRW6
  go_wp2_with fail
  go_ret
  exact ⟨rfl, Grow.trans HG1.out HR6.out⟩
#print axioms do_bad
def didD (d : DS) (x : Blk) : DS := (d.flushed.wrote 2 x).flushed
theorem DS.flushed_len (d : DS) : d.flushed.safe.length = d.safe.length ∧ d.flushed.last.length = d.last.length ∧ d.flushed.ws = [] ∧ d.flushed.acts = d.acts + 1 ∧ d.flushed.set = d.set ∧ (d.set = false → d.flushed.left = d.left) := by
  refine ⟨by show (applyW _ _).length = _; rw [applyW_length], rfl, rfl, rfl, rfl, fun h => ?_⟩
  show (if d.set then _ else _) = _
  rw [h]; rfl
theorem DS.wrote_len (d : DS) (b : Nat) (x : Blk) : (d.wrote b x).safe.length = d.safe.length ∧ (d.wrote b x).ws = d.ws ++ [(b, x)] ∧ (d.wrote b x).acts = d.acts + 1 ∧ (d.wrote b x).set = d.set ∧ (d.set = false → (d.wrote b x).left = d.left) := by
  refine ⟨rfl, rfl, rfl, rfl, fun h => ?_⟩
  show (if d.set then _ else _) = _
  rw [h]; rfl
set_option maxRecDepth 100000 in
set_option maxHeartbeats 4000000 in
theorem do_good {w : World} {B : Nat} {S : List Nat} {d : DS} (h : IsDisk w B S d) (hl : d.safe.length = 58) (hset : d.set = false) (hleft : d.left = 0) (hacts : d.acts = 0) (hws : d.ws = []) (s : Nat) (h1 : 1 ≤ s) (h2 : s ≤ 2147483648) : Calls Try.prog 20 #[.pointer (some ⟨B, 0, none⟩), .agg #[.int .i64 1, .int .i64 16, .int .i64 4, .int .i64 40], .slice none 0 0, .int .u32 (s : Int)] w fun e w' => e = .returned (.int .i64 0) ∧ ∃ S', IsDisk w' B S' (didD d (beginB 4 s 0)) ∧ Touch S w w' ∧ ∀ k ∈ S', k ∈ S ∨ w.heap.size ≤ k := by
  have HDL := Lib.hid hl
  have HF1 := Lib.hid d.flushed_len
  have HF2 := Lib.hid (d.flushed.wrote_len 2 (beginB 4 s 0))
  have HDS := Lib.hid (show d.set = false ∧ d.left = 0 ∧ d.acts = 0 ∧ d.ws = [] from ⟨hset, hleft, hacts, hws⟩)
  have HBL := Lib.hid (beginB_length 4 s 0)
  have HHD := Lib.hid (fun w => head_ok s 0 h1 h2 (by omega) w)
  have d1 : decide ((s : Int) < 1) = false := by simp; omega
  have d2 : decide ((2147483648 : Int) < (s : Int)) = false := by simp; omega
  have hz := zero32
  have HZS := Lib.hid zero_size
  obtain ⟨Z, hZ⟩ : ∃ Z, Z = (bc zeroB).toArray := ⟨_, rfl⟩
  rw [← hZ] at hz HZS
  have HBH := Lib.hid (show Try.prog.built 83 [(0, .int .u32 (s : Int))] = some #[.int .u32 (s : Int), .int .i64 0] by kernel_rfl)
  clear hl hset hleft hacts hws hZ
  have HG0 := Lib.hid (Grow.alloc w (.cells #[.int .i64 1, .int .i64 16, .int .i64 4, .int .i64 40] 43))
  have HP0 := Lib.hid (heap_alloc_last w (.cells #[.int .i64 1, .int .i64 16, .int .i64 4, .int .i64 40] 43))
  have HD0 := Lib.hid (h.kept (Touch.alloc [] w (.cells #[.int .i64 1, .int .i64 16, .int .i64 4, .int .i64 40] 43)) (by simp))
  have HSL := Lib.hid h.lt
  have HS0 := Lib.hid (show w.heap.size < (w.alloc (.cells #[.int .i64 1, .int .i64 16, .int .i64 4, .int .i64 40] 43)).heap.size by simp)
  clear h
  go_enter Try.func20, Try.ntmps20
  go_wp2_with fail
  obtain ⟨W0, hW0⟩ : ∃ W0, W0 = w.alloc (.cells #[.int .i64 1, .int .i64 16, .int .i64 4, .int .i64 40] 43) := ⟨_, rfl⟩
  rw [← hW0] at HG0 HP0 HD0 HS0 ⊢
  clear hW0
  refine (blocks58 HD0.out HDL.out).mono ?_
  intro e w' hpost
  obtain ⟨he, hw⟩ := hpost
  subst he hw
  go_wp2_with (first | (refine wpList_load_row rfl _ _ rfl w.heap.size rfl 43 #[.int .i64 1, .int .i64 16, .int .i64 4, .int .i64 40] (0, 0) _ HP0.out Try.underlying43 rfl sizeGeo ?_))
  refine (gmay W0).mono ?_
  intro e W1 hpost
  obtain ⟨he, hg⟩ := hpost
  subst he
  have HG1 := Lib.hid (Grow.trans HG0.out hg)
  have HPG := Lib.hid ((hg.block w.heap.size HS0.out).trans HP0.out)
  have HPL := Lib.hid (Nat.lt_of_lt_of_le HS0.out hg.size)
  have HD := Lib.hid (HD0.out.kept (Touch.of_below (S := []) hg) (by simp))
  obtain ⟨PG, hPG⟩ : ∃ PG, PG = w.heap.size := ⟨_, rfl⟩
  rw [← hPG] at HPG HPL ⊢
  clear hg hPG HG0 HP0 HD0 HS0
  go_upto_region 5 with (fail)
  refine wp_region_facts (by kernel_rfl) [[], [(0, some 22)], [], [(1, some 23), (2, some 24)], [(1, some 23), (3, some 25)], [(3, some 25), (4, some 26)], [(5, some 27)], [(5, some 27)], [(5, some 27), (6, some 28), (7, some 29)], [(5, some 27), (8, some 30)], [(5, some 27), (9, some 31)], [(8, some 30), (10, some 32)], [(11, some 33)], [(11, some 33), (12, some 34)], [(11, some 33), (13, some 35)], [(11, some 33), (14, some 36)], [(15, some 37)], [(15, some 37), (16, some 38)], [(15, some 37), (17, some 39)]] [(0, some 22), (1, some 23), (2, some 24), (3, some 25), (4, some 26), (5, some 27), (6, some 28), (7, some 29), (8, some 30), (9, some 31), (10, some 32), (11, some 33), (12, some 34), (13, some 35), (14, some 36), (15, some 37), (16, some 38), (17, some 39), (18, some 40)] (by kernel_rfl) (by kernel_rfl) (by kernel_rfl) (Touch []) (Touch.refl []) (fun _ _ _ h h' => h.trans h' (fun i hi => .inl hi)) [Is (Value.pointer (some ⟨B, 0, none⟩)), Is (Value.int .i64 58), Is (Value.agg #[.int .i64 1, .int .i64 16, .int .i64 4, .int .i64 40]), Is (Value.int .i64 58), Is (Value.bool false), Is (Value.bool false), Is (Value.agg #[.int .i64 1, .int .i64 16, .int .i64 4, .int .i64 40]), Is (Value.slice none 0 0), Is (Value.bool true), Is (Value.bool false), Is (Value.bool false), Is (Value.bool false), Is (Value.int .u32 (s : Int)), Is (Value.bool false), Is (Value.bool false), Is (Value.bool false), Is (Value.int .u32 (s : Int)), Is (Value.bool false), Is (Value.bool false)] rfl ⟨is_stab _ _, is_stab _ _, is_stab _ _, is_stab _ _, is_stab _ _, is_stab _ _, is_stab _ _, is_stab _ _, is_stab _ _, is_stab _ _, is_stab _ _, is_stab _ _, is_stab _ _, is_stab _ _, is_stab _ _, is_stab _ _, is_stab _ _, is_stab _ _, is_stab _ _, trivial⟩ ⟨?o0, ?o1, ?o2, ?o3, ?o4, ?o5, ?o6, ?o7, ?o8, ?o9, ?o10, ?o11, ?o12, ?o13, ?o14, ?o15, ?o16, ?o17, ?o18, trivial⟩ ?_
  case o0 =>
    intro vals wq hRq hpq
    simp only [List.getD_cons_zero, List.getD_cons_succ, canonP]
    simp only [Oper.gives]
    go_simp
    exact ⟨is_mk _ _, (Touch.refl []) _⟩
  case o1 =>
    intro vals wq hRq hpq
    simp only [factsP, List.getD_cons_zero, List.getD_cons_succ] at hpq
    have f0 := hpq.1
    replace hpq := hpq.2
    clear hpq
    replace f0 : vals 0 = _ := f0
    simp only [List.getD_cons_zero, List.getD_cons_succ, canonP, f0]
    clear f0
    simp only [Oper.gives]
    go_simp
    exact (blocks58 (HD.out.kept ((Touch.drew [] W1).trans hRq (by simp)) (by simp)) HDL.out).mono fun e w' ⟨he, hw⟩ => ⟨_, he, is_mk _ _, hw ▸ Touch.refl _ _⟩
  case o2 =>
    intro vals wq hRq hpq
    simp only [List.getD_cons_zero, List.getD_cons_succ, canonP]
    have hbx : wq.heap[PG]? = some (.cells #[.int .i64 1, .int .i64 16, .int .i64 4, .int .i64 40] 43) := (hRq.block PG HPL.out (by simp)).trans HPG.out
    rw [if_pos (by rfl)]
    exact gives_load_row 43 _ rfl PG rfl 43 #[.int .i64 1, .int .i64 16, .int .i64 4, .int .i64 40] (0, 0) _ hbx Try.underlying43 rfl sizeGeo ⟨is_mk _ _, Touch.refl _ _⟩
  case o3 =>
    intro vals wq hRq hpq
    simp only [factsP, List.getD_cons_zero, List.getD_cons_succ] at hpq
    have f1 := hpq.1
    replace hpq := hpq.2
    have f2 := hpq.1
    replace hpq := hpq.2
    clear hpq
    replace f1 : vals 1 = _ := f1
    replace f2 : vals 2 = _ := f2
    simp only [List.getD_cons_zero, List.getD_cons_succ, canonP, f1, f2]
    clear f1 f2
    simp only [Oper.gives]
    go_simp
    exact (gblocks wq).mono fun e w' ⟨he, hg⟩ => ⟨_, he, is_mk _ _, Touch.of_below hg⟩
  case o4 =>
    intro vals wq hRq hpq
    simp only [factsP, List.getD_cons_zero, List.getD_cons_succ] at hpq
    have f1 := hpq.1
    replace hpq := hpq.2
    have f3 := hpq.1
    replace hpq := hpq.2
    clear hpq
    replace f1 : vals 1 = _ := f1
    replace f3 : vals 3 = _ := f3
    simp only [List.getD_cons_zero, List.getD_cons_succ, canonP, f1, f3]
    clear f1 f3
    simp only [Oper.gives]
    go_simp
    exact ⟨is_mk _ _, (Touch.refl []) _⟩
  case o5 =>
    intro vals wq hRq hpq
    simp only [factsP, List.getD_cons_zero, List.getD_cons_succ] at hpq
    have f3 := hpq.1
    replace hpq := hpq.2
    have f4 := hpq.1
    replace hpq := hpq.2
    clear hpq
    replace f3 : vals 3 = _ := f3
    replace f4 : vals 4 = _ := f4
    simp only [List.getD_cons_zero, List.getD_cons_succ, canonP, f3, f4]
    clear f3 f4
    simp only [Oper.gives]
    go_simp
    exact ⟨is_mk _ _, (Touch.refl []) _⟩
  case o6 =>
    intro vals wq hRq hpq
    simp only [factsP, List.getD_cons_zero, List.getD_cons_succ] at hpq
    have f5 := hpq.1
    replace hpq := hpq.2
    clear hpq
    replace f5 : vals 5 = _ := f5
    simp only [List.getD_cons_zero, List.getD_cons_succ, canonP, f5]
    clear f5
    have hbx : wq.heap[PG]? = some (.cells #[.int .i64 1, .int .i64 16, .int .i64 4, .int .i64 40] 43) := (hRq.block PG HPL.out (by simp)).trans HPG.out
    rw [if_pos (by rfl)]
    exact gives_load_row 43 _ rfl PG rfl 43 #[.int .i64 1, .int .i64 16, .int .i64 4, .int .i64 40] (0, 0) _ hbx Try.underlying43 rfl sizeGeo ⟨is_mk _ _, Touch.refl _ _⟩
  case o7 =>
    intro vals wq hRq hpq
    simp only [factsP, List.getD_cons_zero, List.getD_cons_succ] at hpq
    have f5 := hpq.1
    replace hpq := hpq.2
    clear hpq
    replace f5 : vals 5 = _ := f5
    simp only [List.getD_cons_zero, List.getD_cons_succ, canonP, f5]
    clear f5
    simp only [Oper.gives]
    go_simp
    exact ⟨is_mk _ _, (Touch.refl []) _⟩
  case o8 =>
    intro vals wq hRq hpq
    simp only [factsP, List.getD_cons_zero, List.getD_cons_succ] at hpq
    have f5 := hpq.1
    replace hpq := hpq.2
    have f6 := hpq.1
    replace hpq := hpq.2
    have f7 := hpq.1
    replace hpq := hpq.2
    clear hpq
    replace f5 : vals 5 = _ := f5
    replace f6 : vals 6 = _ := f6
    replace f7 : vals 7 = _ := f7
    simp only [List.getD_cons_zero, List.getD_cons_succ, canonP, f5, f6, f7]
    clear f5 f6 f7
    simp only [Oper.gives]
    go_simp
    exact (outside_nil wq).mono fun e w' ⟨he, hg⟩ => ⟨_, he, is_mk _ _, Touch.of_below hg⟩
  case o9 =>
    intro vals wq hRq hpq
    simp only [factsP, List.getD_cons_zero, List.getD_cons_succ] at hpq
    have f5 := hpq.1
    replace hpq := hpq.2
    have f8 := hpq.1
    replace hpq := hpq.2
    clear hpq
    replace f5 : vals 5 = _ := f5
    replace f8 : vals 8 = _ := f8
    simp only [List.getD_cons_zero, List.getD_cons_succ, canonP, f5, f8]
    clear f5 f8
    simp only [Oper.gives]
    go_simp
    exact ⟨is_mk _ _, (Touch.refl []) _⟩
  case o10 =>
    intro vals wq hRq hpq
    simp only [factsP, List.getD_cons_zero, List.getD_cons_succ] at hpq
    have f5 := hpq.1
    replace hpq := hpq.2
    have f9 := hpq.1
    replace hpq := hpq.2
    clear hpq
    replace f5 : vals 5 = _ := f5
    replace f9 : vals 9 = _ := f9
    simp only [List.getD_cons_zero, List.getD_cons_succ, canonP, f5, f9]
    clear f5 f9
    simp only [Oper.gives]
    go_simp
    exact ⟨is_mk _ _, (Touch.refl []) _⟩
  case o11 =>
    intro vals wq hRq hpq
    simp only [factsP, List.getD_cons_zero, List.getD_cons_succ] at hpq
    have f8 := hpq.1
    replace hpq := hpq.2
    have f10 := hpq.1
    replace hpq := hpq.2
    clear hpq
    replace f8 : vals 8 = _ := f8
    replace f10 : vals 10 = _ := f10
    simp only [List.getD_cons_zero, List.getD_cons_succ, canonP, f8, f10]
    clear f8 f10
    simp only [Oper.gives]
    go_simp
    exact ⟨is_mk _ _, (Touch.refl []) _⟩
  case o12 =>
    intro vals wq hRq hpq
    simp only [factsP, List.getD_cons_zero, List.getD_cons_succ] at hpq
    have f11 := hpq.1
    replace hpq := hpq.2
    clear hpq
    replace f11 : vals 11 = _ := f11
    simp only [List.getD_cons_zero, List.getD_cons_succ, canonP, f11]
    clear f11
    simp only [Oper.gives]
    go_simp
    exact ⟨is_mk _ _, (Touch.refl []) _⟩
  case o13 =>
    intro vals wq hRq hpq
    simp only [factsP, List.getD_cons_zero, List.getD_cons_succ] at hpq
    have f11 := hpq.1
    replace hpq := hpq.2
    have f12 := hpq.1
    replace hpq := hpq.2
    clear hpq
    replace f11 : vals 11 = _ := f11
    replace f12 : vals 12 = _ := f12
    simp only [List.getD_cons_zero, List.getD_cons_succ, canonP, f11, f12]
    clear f11 f12
    simp only [Oper.gives]
    go_simp
    exact ⟨is_mk _ _, (Touch.refl []) _⟩
  case o14 =>
    intro vals wq hRq hpq
    simp only [factsP, List.getD_cons_zero, List.getD_cons_succ] at hpq
    have f11 := hpq.1
    replace hpq := hpq.2
    have f13 := hpq.1
    replace hpq := hpq.2
    clear hpq
    replace f11 : vals 11 = _ := f11
    replace f13 : vals 13 = _ := f13
    simp only [List.getD_cons_zero, List.getD_cons_succ, canonP, f11, f13]
    clear f11 f13
    simp only [Oper.gives]
    go_simp
    exact ⟨is_mk _ _, (Touch.refl []) _⟩
  case o15 =>
    intro vals wq hRq hpq
    simp only [factsP, List.getD_cons_zero, List.getD_cons_succ] at hpq
    have f11 := hpq.1
    replace hpq := hpq.2
    have f14 := hpq.1
    replace hpq := hpq.2
    clear hpq
    replace f11 : vals 11 = _ := f11
    replace f14 : vals 14 = _ := f14
    simp only [List.getD_cons_zero, List.getD_cons_succ, canonP, f11, f14]
    clear f11 f14
    simp only [Oper.gives]
    go_simp
    exact ⟨is_mk _ _, (Touch.refl []) _⟩
  case o16 =>
    intro vals wq hRq hpq
    simp only [factsP, List.getD_cons_zero, List.getD_cons_succ] at hpq
    have f15 := hpq.1
    replace hpq := hpq.2
    clear hpq
    replace f15 : vals 15 = _ := f15
    simp only [List.getD_cons_zero, List.getD_cons_succ, canonP, f15]
    clear f15
    simp only [Oper.gives]
    go_simp
    exact ⟨is_mk _ _, (Touch.refl []) _⟩
  case o17 =>
    intro vals wq hRq hpq
    simp only [factsP, List.getD_cons_zero, List.getD_cons_succ] at hpq
    have f15 := hpq.1
    replace hpq := hpq.2
    have f16 := hpq.1
    replace hpq := hpq.2
    clear hpq
    replace f15 : vals 15 = _ := f15
    replace f16 : vals 16 = _ := f16
    simp only [List.getD_cons_zero, List.getD_cons_succ, canonP, f15, f16]
    clear f15 f16
    simp only [Oper.gives]
    go_simp
    exact ⟨is_mk _ _, (Touch.refl []) _⟩
  case o18 =>
    intro vals wq hRq hpq
    simp only [factsP, List.getD_cons_zero, List.getD_cons_succ] at hpq
    have f15 := hpq.1
    replace hpq := hpq.2
    have f17 := hpq.1
    replace hpq := hpq.2
    clear hpq
    replace f15 : vals 15 = _ := f15
    replace f17 : vals 17 = _ := f17
    simp only [List.getD_cons_zero, List.getD_cons_succ, canonP, f15, f17]
    clear f15 f17
    simp only [Oper.gives]
    go_simp
    exact ⟨is_mk _ _, (Touch.refl []) _⟩
  intro vals W6 hRW6 hfW6
  simp only [AllFacts] at hfW6
  have g0 := hfW6.1
  replace hfW6 := hfW6.2
  have g1 := hfW6.1
  replace hfW6 := hfW6.2
  have g2 := hfW6.1
  replace hfW6 := hfW6.2
  have g3 := hfW6.1
  replace hfW6 := hfW6.2
  have g4 := hfW6.1
  replace hfW6 := hfW6.2
  have g5 := hfW6.1
  replace hfW6 := hfW6.2
  have g6 := hfW6.1
  replace hfW6 := hfW6.2
  have g7 := hfW6.1
  replace hfW6 := hfW6.2
  have g8 := hfW6.1
  replace hfW6 := hfW6.2
  have g9 := hfW6.1
  replace hfW6 := hfW6.2
  have g10 := hfW6.1
  replace hfW6 := hfW6.2
  have g11 := hfW6.1
  replace hfW6 := hfW6.2
  have g12 := hfW6.1
  replace hfW6 := hfW6.2
  have g13 := hfW6.1
  replace hfW6 := hfW6.2
  have g14 := hfW6.1
  replace hfW6 := hfW6.2
  have g15 := hfW6.1
  replace hfW6 := hfW6.2
  have g16 := hfW6.1
  replace hfW6 := hfW6.2
  have g17 := hfW6.1
  replace hfW6 := hfW6.2
  have g18 := hfW6.1
  replace hfW6 := hfW6.2
  clear hfW6
  replace g0 : vals 0 = _ := g0
  replace g1 : vals 1 = _ := g1
  replace g2 : vals 2 = _ := g2
  replace g3 : vals 3 = _ := g3
  replace g4 : vals 4 = _ := g4
  replace g5 : vals 5 = _ := g5
  replace g6 : vals 6 = _ := g6
  replace g7 : vals 7 = _ := g7
  replace g8 : vals 8 = _ := g8
  replace g9 : vals 9 = _ := g9
  replace g10 : vals 10 = _ := g10
  replace g11 : vals 11 = _ := g11
  replace g12 : vals 12 = _ := g12
  replace g13 : vals 13 = _ := g13
  replace g14 : vals 14 = _ := g14
  replace g15 : vals 15 = _ := g15
  replace g16 : vals 16 = _ := g16
  replace g17 : vals 17 = _ := g17
  replace g18 : vals 18 = _ := g18
  simp only [canonP, Act.put, List.setIfInBounds_toArray, List.set_cons_succ, List.set_cons_zero, g0, g1, g2, g3, g4, g5, g6, g7, g8, g9, g10, g11, g12, g13, g14, g15, g16, g17, g18]
  clear g0 g1 g2 g3 g4 g5 g6 g7 g8 g9 g10 g11 g12 g13 g14 g15 g16 g17 g18
  have HG6 := Lib.hid (show Grow w W6 from Grow.trans HG1.out (((Touch.drew [] W1).trans hRW6 (by simp)).below (Nat.le_refl _) (by simp)))
  have HD6 := Lib.hid (HD.out.kept ((Touch.drew [] W1).trans hRW6 (by simp)) (by simp))
  clear hRW6 HD HG1
  go_wp2_with (first | (refine wpList_build rfl 83 _ rfl _ (by simp only [List.map_toArray, List.map_cons, List.map_nil]; exact HBH.out) ?_))
  refine (HHD.out W6).mono ?_
  intro e W7 hpost
  obtain ⟨he, hg⟩ := hpost
  subst he
  have HG7 := Lib.hid (Grow.trans HG6.out hg)
  have HD7 := Lib.hid (HD6.out.kept (Touch.of_below (S := []) hg) (by simp))
  obtain ⟨hb, hhb⟩ : ∃ hb, hb = beginB 4 s 0 := ⟨_, rfl⟩
  rw [← hhb] at HBL HF2 ⊢
  obtain ⟨R, hR⟩ : ∃ R, R = (bc hb).toArray := ⟨_, rfl⟩
  have HR := Lib.hid hR
  have HRs := Lib.hid (show R.size = 256 by rw [hR, List.size_toArray, bc_length, HBL.out])
  have HR1 := Lib.hid (show R.all (·.oneCell') = true by rw [hR]; exact all_oneCell_toArray (bc_one _))
  rw [← hR]
  have HHB := Lib.hid hhb
  clear hR hg hhb HHD HBH
  go_upto_region 10 with (refine wpList_store_row rfl 29 _ _ rfl W7.heap.size R rfl rfl 29 Z (heap_alloc_last _ _) (by rw [HRs.out]; exact size32) (by rw [HRs.out]; exact HZS.out) HR1.out ?_)
  have HB8 := Lib.hid (show ((W7.alloc (.cells Z 29)).setRow W7.heap.size R).heap[W7.heap.size]? = some (.cells R 29) from setRow_heap _ _ _ _ _ _ (heap_alloc_last _ _))
  have hg8 : Grow W7 ((W7.alloc (.cells Z 29)).setRow W7.heap.size R) := below_setRow ((Below.refl _ _).alloc (Nat.le_refl _) _) (Nat.le_refl _) _
  have HG8 := Lib.hid (Grow.trans HG7.out hg8)
  have HD8 := Lib.hid (HD7.out.kept (Touch.of_below (S := []) hg8) (by simp))
  have HN8 := Lib.hid (show W7.heap.size ∉ S from fun hm => by have := HD7.out.lt _ hm; omega)
  generalize (W7.alloc (.cells Z 29)).setRow W7.heap.size R = W8 at *
  obtain ⟨PB, hPB⟩ : ∃ PB, PB = W7.heap.size := ⟨_, rfl⟩
  rw [← hPB] at HB8 HN8 ⊢
  have HL8 := Lib.hid (Array.getElem?_eq_some_iff.1 HB8.out).1
  clear hg8 hPB HD7 HG7 HD6 HG6
  go_wp2_with fail
  refine (overlay_nil W8).mono ?_
  intro e W9 hpost
  obtain ⟨⟨ao, co, he⟩, hg⟩ := hpost
  subst he
  have HB9 := Lib.hid ((hg.block PB HL8.out).trans HB8.out)
  have HL9 := Lib.hid (Nat.lt_of_lt_of_le HL8.out hg.size)
  have HG9 := Lib.hid (Grow.trans HG8.out hg)
  have HD9 := Lib.hid (HD8.out.kept (Touch.of_below (S := []) hg) (by simp))
  clear hg
  go_wp2_with fail
  refine wp_loop_rounds 1 ?_
  rw [rounds_succ]
  go_wp2_with fail
  refine (flush_ok HD9.out (by unfold DS.dead; rw [HDS.out.1]; rfl) (by rw [HDS.out.2.2.2]; simp) (by rw [HDS.out.2.2.2]; simp) (by rw [HDS.out.2.2.1]; omega) (by rw [HDS.out.2.1]; omega)).mono ?_
  intro e W10 hpost
  obtain ⟨he, hd, ht⟩ := hpost
  subst he
  have HB10 := Lib.hid ((ht.block PB HL9.out HN8.out).trans HB9.out)
  have HT10 := Lib.hid (show Touch S w W10 from (Touch.of_below (S := S) HG9.out).trans ht (fun i hi => .inl hi))
  have HD10 := Lib.hid hd
  have HL10 := Lib.hid (Nat.lt_of_lt_of_le HL9.out ht.size)
  clear hd ht
  go_wp2_with (first | (refine wpList_load_row rfl _ _ rfl PB rfl 29 R (0, 0) _ HB10.out Try.underlying29 rfl (by rw [HRs.out]; exact size32) ?_))
  rw [HR.out]
  refine (write_ok HD10.out 2 (by rw [HF1.out.1, HDL.out]; omega) hb HBL.out (by unfold DS.dead; rw [HF1.out.2.2.2.2.1, HDS.out.1]; rfl) (by rw [HF1.out.2.2.1]; simp) (by rw [HF1.out.2.2.2.1, HDS.out.2.2.1]; omega) (by rw [HF1.out.2.2.2.2.2 HDS.out.1, HDS.out.2.1]; omega)).mono ?_
  intro e W11 hpost
  obtain ⟨he, S', hd, ht, hs⟩ := hpost
  subst he
  have HT11 := Lib.hid (show Touch S w W11 from HT10.out.trans ht (fun i hi => .inl hi))
  have HS11 := Lib.hid (show ∀ k ∈ S', k ∈ S ∨ w.heap.size ≤ k from fun k hk => (hs k hk).imp id (fun h => Nat.le_trans HT10.out.size h))
  have HD11 := Lib.hid hd
  clear hd ht hs
  go_wp2_with fail
  refine (flush_ok HD11.out (by unfold DS.dead; rw [HF2.out.2.2.2.1, HF1.out.2.2.2.2.1, HDS.out.1]; rfl) (by rw [HF2.out.2.1, HF2.out.1, HF1.out.1, HF1.out.2.2.1, HDL.out]; simp) (by rw [HF2.out.2.1, HF1.out.2.2.1]; simp) (by rw [HF2.out.2.2.1, HF1.out.2.2.2.1, HDS.out.2.2.1]; omega) (by rw [HF2.out.2.2.2.2 (by rw [HF1.out.2.2.2.2.1]; exact HDS.out.1), HF1.out.2.2.2.2.2 HDS.out.1, HDS.out.2.1]; omega)).mono ?_
  intro e W12 hpost
  obtain ⟨he, hd, ht⟩ := hpost
  subst he
  have HT12 := Lib.hid (show Touch S w W12 from HT11.out.trans ht (fun i hi => HS11.out i hi))
  have HD12 := Lib.hid hd
  clear hd ht
  go_wp2_with fail
  go_ret
  exact ⟨rfl, S', by unfold didD; rw [← HHB.out]; exact HD12.out, HT12.out, HS11.out⟩
#print axioms do_good
end Go.Proofs.Ytlhhbkpocpnebaa
