/- The law GeoTells: the walk. -/
import Derived.Test.YtgakdaohhbdjoaaG20
set_option linter.unusedVariables false
set_option linter.unusedSimpArgs false
namespace Go.Proofs.Ytgakdaohhbdjoaa
open Go.RowKit Go.Shelf

theorem may_any (gr sz ni jr : Int) (w : World) : Calls Try.prog 20 #[gv gr sz ni jr] w fun e w' => e = .returned (.bool (decide (May gr sz ni jr))) ∧ Grow w w' := by
  by_cases h : May gr sz ni jr
  · rw [decide_eq_true h]; exact may_yes gr sz ni jr h w
  · rw [decide_eq_false h]; exact may_no gr sz ni jr h w
theorem rmay_any (gr sz ni jr : Int) (w : World) : Calls Try.prog 21 #[gv gr sz ni jr] w fun e w' => e = .returned (.bool (decide (May gr sz ni jr))) ∧ Grow w w' := by
  by_cases h : May gr sz ni jr
  · rw [decide_eq_true h]; exact rmay_yes gr sz ni jr h w
  · rw [decide_eq_false h]; exact rmay_no gr sz ni jr h w

set_option maxRecDepth 100000 in
set_option maxHeartbeats 4000000 in
theorem tells_walk (gr sz ni jr k bl : Int) (w : World) :
    Calls Try.prog 4 #[gv gr sz ni jr, .int .i64 k, .int .i64 bl] w fun e w' => e = .returned (.bool true) ∧ Below w.heap.size w w' := by
  obtain ⟨x, b, hst⟩ := start_form gr sz ni jr k
  obtain ⟨p, q, r, hwh⟩ := what_form gr sz ni jr bl
  have HST := Lib.hid hst
  have HWH := Lib.hid hwh
  clear hst hwh
  have HMB := Lib.hid (may_any gr sz ni jr)
  have HRM := Lib.hid (rmay_any gr sz ni jr)
  have HB1 := Lib.hid (blocks_any gr sz ni jr)
  have HB2 := Lib.hid (rblocks_any gr sz ni jr)
  have HI1 := Lib.hid (inodes_any gr sz ni jr)
  have HI2 := Lib.hid (rinodes_any gr sz ni jr)
  have HD1 := Lib.hid (data_any gr sz ni jr)
  have HD2 := Lib.hid (rdata_any gr sz ni jr)
  generalize decide (May gr sz ni jr) = mb at *
  generalize nBlocks gr sz ni jr = NB at *
  generalize nInodes gr sz ni jr = NI at *
  generalize nData gr sz ni jr = ND at *
  go_enter Try.func4, Try.ntmps4
  go_wp2_with fail
  refine (start_any gr sz ni jr k _).mono ?_
  rintro e w1 ⟨rfl, hg⟩
  rw [HST.out]
  have HG1 := Lib.hid hg
  clear hg
  obtain ⟨c0, c1, c2, c3⟩ := box_at HG1.out
  go_wp2_with fail
  refine (rstart_any gr sz ni jr k _).mono ?_
  rintro e w2 ⟨rfl, hg⟩
  rw [HST.out]
  have HG2 := Lib.hid (HG1.out.trans hg)
  clear hg c0 c1 c2 c3
  obtain ⟨c0, c1, c2, c3⟩ := box_at HG2.out
  go_wp2_with fail
  refine (what_any gr sz ni jr bl _).mono ?_
  rintro e w3 ⟨rfl, hg⟩
  rw [HWH.out]
  have HG3 := Lib.hid (HG2.out.trans hg)
  clear hg c0 c1 c2 c3
  obtain ⟨c0, c1, c2, c3⟩ := box_at HG3.out
  go_wp2_with fail
  refine (rwhat_any gr sz ni jr bl _).mono ?_
  rintro e w4 ⟨rfl, hg⟩
  rw [HWH.out]
  have HG4 := Lib.hid (HG3.out.trans hg)
  clear hg c0 c1 c2 c3
  go_wp2_with fail
  refine wp_region_facts (by kernel_rfl) [[], [(0, some 43)], [], [(1, some 44), (2, some 45)], [(1, some 44), (3, some 46)], [(3, some 46), (4, some 47)], [(5, some 48)], [(5, some 48), (6, some 49)], [(5, some 48)], [(5, some 48), (7, some 50), (8, some 51)], [(5, some 48), (7, some 50), (9, some 52)], [(5, some 48), (10, some 53)], [(9, some 52), (11, some 54)], [(12, some 55)], [(12, some 55), (13, some 56)], [(12, some 55)], [(12, some 55), (14, some 57), (15, some 58)], [(12, some 55), (14, some 57), (16, some 59)], [(12, some 55), (17, some 60)], [(16, some 59), (18, some 61)], [(19, some 62)], [(19, some 62), (20, some 63)], [(19, some 62)], [(19, some 62), (21, some 64), (22, some 65)], [(19, some 62), (21, some 64), (23, some 66)], [(19, some 62), (24, some 67)], [(23, some 66), (25, some 68)], [(26, some 69)], [(26, some 69)], [(26, some 69), (27, some 70), (28, some 71)], [(26, some 69), (29, some 72)], [(26, some 69), (30, some 73)], [(31, some 74)], [(31, some 74)], [(31, some 74), (32, some 75), (33, some 76)], [(31, some 74), (34, some 77)], [(31, some 74), (35, some 78)], [(36, some 79)], [(36, some 79)], [(36, some 79), (37, some 80), (38, some 81)], [(36, some 79), (39, some 82)], [(36, some 79), (40, some 83)], [(41, some 84)], [(41, some 84)], [(41, some 84), (42, some 85), (43, some 86)], [(41, some 84), (44, some 87)], [(41, some 84), (45, some 88)], [(46, some 89)], [(46, some 89)], [(46, some 89), (47, some 90), (48, some 91)], [(46, some 89), (49, some 92)], [(0, some 43), (1, some 44), (2, some 45), (3, some 46), (4, some 47), (5, some 48), (6, some 49), (7, some 50), (8, some 51), (9, some 52), (10, some 53), (11, some 54), (12, some 55), (13, some 56), (14, some 57), (15, some 58), (16, some 59), (17, some 60), (18, some 61), (19, some 62), (20, some 63), (21, some 64), (22, some 65), (23, some 66), (24, some 67), (25, some 68), (26, some 69), (27, some 70), (28, some 71), (29, some 72), (30, some 73), (31, some 74), (32, some 75), (33, some 76), (34, some 77), (35, some 78), (36, some 79), (37, some 80), (38, some 81), (39, some 82), (40, some 83), (41, some 84), (42, some 85), (43, some 86), (44, some 87), (45, some 88), (46, some 89), (47, some 90), (48, some 91), (49, some 92), (50, some 93)]] [(0, some 43), (1, some 44), (2, some 45), (3, some 46), (4, some 47), (5, some 48), (6, some 49), (7, some 50), (8, some 51), (9, some 52), (10, some 53), (11, some 54), (12, some 55), (13, some 56), (14, some 57), (15, some 58), (16, some 59), (17, some 60), (18, some 61), (19, some 62), (20, some 63), (21, some 64), (22, some 65), (23, some 66), (24, some 67), (25, some 68), (26, some 69), (27, some 70), (28, some 71), (29, some 72), (30, some 73), (31, some 74), (32, some 75), (33, some 76), (34, some 77), (35, some 78), (36, some 79), (37, some 80), (38, some 81), (39, some 82), (40, some 83), (41, some 84), (42, some 85), (43, some 86), (44, some 87), (45, some 88), (46, some 89), (47, some 90), (48, some 91), (49, some 92), (50, some 93), (51, some 6)] (by kernel_rfl) (by kernel_rfl) (by kernel_rfl) (Grow) Grow.refl (fun _ _ _ h h' => Grow.trans h h') [Is (Value.agg #[Value.int .i64 gr, Value.int .i64 sz, Value.int .i64 ni, Value.int .i64 jr]), Is (Value.bool mb), Is (Value.agg #[Value.int .i64 gr, Value.int .i64 sz, Value.int .i64 ni, Value.int .i64 jr]), Is (Value.bool mb), Is (Value.bool true), Is (Value.bool true), Is (Value.agg #[Value.int .i64 gr, Value.int .i64 sz, Value.int .i64 ni, Value.int .i64 jr]), Is (Value.int .i64 NB), Is (Value.agg #[Value.int .i64 gr, Value.int .i64 sz, Value.int .i64 ni, Value.int .i64 jr]), Is (Value.int .i64 NB), Is (Value.bool true), Is (Value.bool true), Is (Value.bool true), Is (Value.agg #[Value.int .i64 gr, Value.int .i64 sz, Value.int .i64 ni, Value.int .i64 jr]), Is (Value.int .i64 NI), Is (Value.agg #[Value.int .i64 gr, Value.int .i64 sz, Value.int .i64 ni, Value.int .i64 jr]), Is (Value.int .i64 NI), Is (Value.bool true), Is (Value.bool true), Is (Value.bool true), Is (Value.agg #[Value.int .i64 gr, Value.int .i64 sz, Value.int .i64 ni, Value.int .i64 jr]), Is (Value.int .i64 ND), Is (Value.agg #[Value.int .i64 gr, Value.int .i64 sz, Value.int .i64 ni, Value.int .i64 jr]), Is (Value.int .i64 ND), Is (Value.bool true), Is (Value.bool true), Is (Value.bool true), Is (Value.int .i64 x), Is (Value.int .i64 x), Is (Value.bool true), Is (Value.bool true), Is (Value.bool true), Is (Value.bool b), Is (Value.bool b), Is (Value.bool true), Is (Value.bool true), Is (Value.bool true), Is (Value.int .u8 p), Is (Value.int .u8 p), Is (Value.bool true), Is (Value.bool true), Is (Value.bool true), Is (Value.int .i64 q), Is (Value.int .i64 q), Is (Value.bool true), Is (Value.bool true), Is (Value.bool true), Is (Value.int .i64 r), Is (Value.int .i64 r), Is (Value.bool true), Is (Value.bool true), Is (Value.bool true)] rfl ⟨is_stab _ _, is_stab _ _, is_stab _ _, is_stab _ _, is_stab _ _, is_stab _ _, is_stab _ _, is_stab _ _, is_stab _ _, is_stab _ _, is_stab _ _, is_stab _ _, is_stab _ _, is_stab _ _, is_stab _ _, is_stab _ _, is_stab _ _, is_stab _ _, is_stab _ _, is_stab _ _, is_stab _ _, is_stab _ _, is_stab _ _, is_stab _ _, is_stab _ _, is_stab _ _, is_stab _ _, is_stab _ _, is_stab _ _, is_stab _ _, is_stab _ _, is_stab _ _, is_stab _ _, is_stab _ _, is_stab _ _, is_stab _ _, is_stab _ _, is_stab _ _, is_stab _ _, is_stab _ _, is_stab _ _, is_stab _ _, is_stab _ _, is_stab _ _, is_stab _ _, is_stab _ _, is_stab _ _, is_stab _ _, is_stab _ _, is_stab _ _, is_stab _ _, is_stab _ _, trivial⟩ ⟨?o0, ?o1, ?o2, ?o3, ?o4, ?o5, ?o6, ?o7, ?o8, ?o9, ?o10, ?o11, ?o12, ?o13, ?o14, ?o15, ?o16, ?o17, ?o18, ?o19, ?o20, ?o21, ?o22, ?o23, ?o24, ?o25, ?o26, ?o27, ?o28, ?o29, ?o30, ?o31, ?o32, ?o33, ?o34, ?o35, ?o36, ?o37, ?o38, ?o39, ?o40, ?o41, ?o42, ?o43, ?o44, ?o45, ?o46, ?o47, ?o48, ?o49, ?o50, ?o51, trivial⟩ ?_
  case o0 =>
    intro vals wq hRq hpq
    simp only [List.getD_cons_zero, List.getD_cons_succ, canonP]
    have hb4 := HG4.out.trans ((Grow.drew _).trans hRq)
    have c0 := (box_at hb4).1
    have c1 := (box_at hb4).2.1
    have c2 := (box_at hb4).2.2.1
    have c3 := (box_at hb4).2.2.2
    simp only [Oper.gives]
    go_simp
    exact ⟨is_mk _ _, Grow.refl _⟩
  case o1 =>
    intro vals wq hRq hpq
    simp only [factsP, List.getD_cons_zero, List.getD_cons_succ] at hpq
    have f0 := hpq.1
    replace hpq := hpq.2
    clear hpq
    replace f0 : vals 0 = _ := f0
    simp only [List.getD_cons_zero, List.getD_cons_succ, canonP, f0]
    clear f0
    simp only [Oper.gives]
    go_simp
    exact (HMB.out wq).mono fun e w' ⟨he, hg⟩ => ⟨_, he, is_mk _ _, hg⟩
  case o2 =>
    intro vals wq hRq hpq
    simp only [List.getD_cons_zero, List.getD_cons_succ, canonP]
    have hb4 := HG4.out.trans ((Grow.drew _).trans hRq)
    have c0 := (box_at hb4).1
    have c1 := (box_at hb4).2.1
    have c2 := (box_at hb4).2.2.1
    have c3 := (box_at hb4).2.2.2
    simp only [Oper.gives]
    go_simp
    exact ⟨is_mk _ _, Grow.refl _⟩
  case o3 =>
    intro vals wq hRq hpq
    simp only [factsP, List.getD_cons_zero, List.getD_cons_succ] at hpq
    have f1 := hpq.1
    replace hpq := hpq.2
    have f2 := hpq.1
    replace hpq := hpq.2
    clear hpq
    replace f1 : vals 1 = _ := f1
    replace f2 : vals 2 = _ := f2
    simp only [List.getD_cons_zero, List.getD_cons_succ, canonP, f1, f2]
    clear f1 f2
    simp only [Oper.gives]
    go_simp
    exact (HRM.out wq).mono fun e w' ⟨he, hg⟩ => ⟨_, he, is_mk _ _, hg⟩
  case o4 =>
    intro vals wq hRq hpq
    simp only [factsP, List.getD_cons_zero, List.getD_cons_succ] at hpq
    have f1 := hpq.1
    replace hpq := hpq.2
    have f3 := hpq.1
    replace hpq := hpq.2
    clear hpq
    replace f1 : vals 1 = _ := f1
    replace f3 : vals 3 = _ := f3
    simp only [List.getD_cons_zero, List.getD_cons_succ, canonP, f1, f3]
    clear f1 f3
    simp only [Oper.gives]
    go_simp
    exact ⟨is_mk _ _, Grow.refl _⟩
  case o5 =>
    intro vals wq hRq hpq
    simp only [factsP, List.getD_cons_zero, List.getD_cons_succ] at hpq
    have f3 := hpq.1
    replace hpq := hpq.2
    have f4 := hpq.1
    replace hpq := hpq.2
    clear hpq
    replace f3 : vals 3 = _ := f3
    replace f4 : vals 4 = _ := f4
    simp only [List.getD_cons_zero, List.getD_cons_succ, canonP, f3, f4]
    clear f3 f4
    simp only [Oper.gives]
    go_simp
    exact ⟨is_mk _ _, Grow.refl _⟩
  case o6 =>
    intro vals wq hRq hpq
    simp only [factsP, List.getD_cons_zero, List.getD_cons_succ] at hpq
    have f5 := hpq.1
    replace hpq := hpq.2
    clear hpq
    replace f5 : vals 5 = _ := f5
    simp only [List.getD_cons_zero, List.getD_cons_succ, canonP, f5]
    clear f5
    have hb4 := HG4.out.trans ((Grow.drew _).trans hRq)
    have c0 := (box_at hb4).1
    have c1 := (box_at hb4).2.1
    have c2 := (box_at hb4).2.2.1
    have c3 := (box_at hb4).2.2.2
    simp only [Oper.gives]
    go_simp
    exact ⟨is_mk _ _, Grow.refl _⟩
  case o7 =>
    intro vals wq hRq hpq
    simp only [factsP, List.getD_cons_zero, List.getD_cons_succ] at hpq
    have f5 := hpq.1
    replace hpq := hpq.2
    have f6 := hpq.1
    replace hpq := hpq.2
    clear hpq
    replace f5 : vals 5 = _ := f5
    replace f6 : vals 6 = _ := f6
    simp only [List.getD_cons_zero, List.getD_cons_succ, canonP, f5, f6]
    clear f5 f6
    simp only [Oper.gives]
    go_simp
    exact (HB1.out wq).mono fun e w' ⟨he, hg⟩ => ⟨_, he, is_mk _ _, hg⟩
  case o8 =>
    intro vals wq hRq hpq
    simp only [factsP, List.getD_cons_zero, List.getD_cons_succ] at hpq
    have f5 := hpq.1
    replace hpq := hpq.2
    clear hpq
    replace f5 : vals 5 = _ := f5
    simp only [List.getD_cons_zero, List.getD_cons_succ, canonP, f5]
    clear f5
    have hb4 := HG4.out.trans ((Grow.drew _).trans hRq)
    have c0 := (box_at hb4).1
    have c1 := (box_at hb4).2.1
    have c2 := (box_at hb4).2.2.1
    have c3 := (box_at hb4).2.2.2
    simp only [Oper.gives]
    go_simp
    exact ⟨is_mk _ _, Grow.refl _⟩
  case o9 =>
    intro vals wq hRq hpq
    simp only [factsP, List.getD_cons_zero, List.getD_cons_succ] at hpq
    have f5 := hpq.1
    replace hpq := hpq.2
    have f7 := hpq.1
    replace hpq := hpq.2
    have f8 := hpq.1
    replace hpq := hpq.2
    clear hpq
    replace f5 : vals 5 = _ := f5
    replace f7 : vals 7 = _ := f7
    replace f8 : vals 8 = _ := f8
    simp only [List.getD_cons_zero, List.getD_cons_succ, canonP, f5, f7, f8]
    clear f5 f7 f8
    simp only [Oper.gives]
    go_simp
    exact (HB2.out wq).mono fun e w' ⟨he, hg⟩ => ⟨_, he, is_mk _ _, hg⟩
  case o10 =>
    intro vals wq hRq hpq
    simp only [factsP, List.getD_cons_zero, List.getD_cons_succ] at hpq
    have f5 := hpq.1
    replace hpq := hpq.2
    have f7 := hpq.1
    replace hpq := hpq.2
    have f9 := hpq.1
    replace hpq := hpq.2
    clear hpq
    replace f5 : vals 5 = _ := f5
    replace f7 : vals 7 = _ := f7
    replace f9 : vals 9 = _ := f9
    simp only [List.getD_cons_zero, List.getD_cons_succ, canonP, f5, f7, f9]
    clear f5 f7 f9
    simp only [Oper.gives]
    go_simp
    exact ⟨is_mk _ _, Grow.refl _⟩
  case o11 =>
    intro vals wq hRq hpq
    simp only [factsP, List.getD_cons_zero, List.getD_cons_succ] at hpq
    have f5 := hpq.1
    replace hpq := hpq.2
    have f10 := hpq.1
    replace hpq := hpq.2
    clear hpq
    replace f5 : vals 5 = _ := f5
    replace f10 : vals 10 = _ := f10
    simp only [List.getD_cons_zero, List.getD_cons_succ, canonP, f5, f10]
    clear f5 f10
    simp only [Oper.gives]
    go_simp
    exact ⟨is_mk _ _, Grow.refl _⟩
  case o12 =>
    intro vals wq hRq hpq
    simp only [factsP, List.getD_cons_zero, List.getD_cons_succ] at hpq
    have f9 := hpq.1
    replace hpq := hpq.2
    have f11 := hpq.1
    replace hpq := hpq.2
    clear hpq
    replace f9 : vals 9 = _ := f9
    replace f11 : vals 11 = _ := f11
    simp only [List.getD_cons_zero, List.getD_cons_succ, canonP, f9, f11]
    clear f9 f11
    simp only [Oper.gives]
    go_simp
    exact ⟨is_mk _ _, Grow.refl _⟩
  case o13 =>
    intro vals wq hRq hpq
    simp only [factsP, List.getD_cons_zero, List.getD_cons_succ] at hpq
    have f12 := hpq.1
    replace hpq := hpq.2
    clear hpq
    replace f12 : vals 12 = _ := f12
    simp only [List.getD_cons_zero, List.getD_cons_succ, canonP, f12]
    clear f12
    have hb4 := HG4.out.trans ((Grow.drew _).trans hRq)
    have c0 := (box_at hb4).1
    have c1 := (box_at hb4).2.1
    have c2 := (box_at hb4).2.2.1
    have c3 := (box_at hb4).2.2.2
    simp only [Oper.gives]
    go_simp
    exact ⟨is_mk _ _, Grow.refl _⟩
  case o14 =>
    intro vals wq hRq hpq
    simp only [factsP, List.getD_cons_zero, List.getD_cons_succ] at hpq
    have f12 := hpq.1
    replace hpq := hpq.2
    have f13 := hpq.1
    replace hpq := hpq.2
    clear hpq
    replace f12 : vals 12 = _ := f12
    replace f13 : vals 13 = _ := f13
    simp only [List.getD_cons_zero, List.getD_cons_succ, canonP, f12, f13]
    clear f12 f13
    simp only [Oper.gives]
    go_simp
    exact (HI1.out wq).mono fun e w' ⟨he, hg⟩ => ⟨_, he, is_mk _ _, hg⟩
  case o15 =>
    intro vals wq hRq hpq
    simp only [factsP, List.getD_cons_zero, List.getD_cons_succ] at hpq
    have f12 := hpq.1
    replace hpq := hpq.2
    clear hpq
    replace f12 : vals 12 = _ := f12
    simp only [List.getD_cons_zero, List.getD_cons_succ, canonP, f12]
    clear f12
    have hb4 := HG4.out.trans ((Grow.drew _).trans hRq)
    have c0 := (box_at hb4).1
    have c1 := (box_at hb4).2.1
    have c2 := (box_at hb4).2.2.1
    have c3 := (box_at hb4).2.2.2
    simp only [Oper.gives]
    go_simp
    exact ⟨is_mk _ _, Grow.refl _⟩
  case o16 =>
    intro vals wq hRq hpq
    simp only [factsP, List.getD_cons_zero, List.getD_cons_succ] at hpq
    have f12 := hpq.1
    replace hpq := hpq.2
    have f14 := hpq.1
    replace hpq := hpq.2
    have f15 := hpq.1
    replace hpq := hpq.2
    clear hpq
    replace f12 : vals 12 = _ := f12
    replace f14 : vals 14 = _ := f14
    replace f15 : vals 15 = _ := f15
    simp only [List.getD_cons_zero, List.getD_cons_succ, canonP, f12, f14, f15]
    clear f12 f14 f15
    simp only [Oper.gives]
    go_simp
    exact (HI2.out wq).mono fun e w' ⟨he, hg⟩ => ⟨_, he, is_mk _ _, hg⟩
  case o17 =>
    intro vals wq hRq hpq
    simp only [factsP, List.getD_cons_zero, List.getD_cons_succ] at hpq
    have f12 := hpq.1
    replace hpq := hpq.2
    have f14 := hpq.1
    replace hpq := hpq.2
    have f16 := hpq.1
    replace hpq := hpq.2
    clear hpq
    replace f12 : vals 12 = _ := f12
    replace f14 : vals 14 = _ := f14
    replace f16 : vals 16 = _ := f16
    simp only [List.getD_cons_zero, List.getD_cons_succ, canonP, f12, f14, f16]
    clear f12 f14 f16
    simp only [Oper.gives]
    go_simp
    exact ⟨is_mk _ _, Grow.refl _⟩
  case o18 =>
    intro vals wq hRq hpq
    simp only [factsP, List.getD_cons_zero, List.getD_cons_succ] at hpq
    have f12 := hpq.1
    replace hpq := hpq.2
    have f17 := hpq.1
    replace hpq := hpq.2
    clear hpq
    replace f12 : vals 12 = _ := f12
    replace f17 : vals 17 = _ := f17
    simp only [List.getD_cons_zero, List.getD_cons_succ, canonP, f12, f17]
    clear f12 f17
    simp only [Oper.gives]
    go_simp
    exact ⟨is_mk _ _, Grow.refl _⟩
  case o19 =>
    intro vals wq hRq hpq
    simp only [factsP, List.getD_cons_zero, List.getD_cons_succ] at hpq
    have f16 := hpq.1
    replace hpq := hpq.2
    have f18 := hpq.1
    replace hpq := hpq.2
    clear hpq
    replace f16 : vals 16 = _ := f16
    replace f18 : vals 18 = _ := f18
    simp only [List.getD_cons_zero, List.getD_cons_succ, canonP, f16, f18]
    clear f16 f18
    simp only [Oper.gives]
    go_simp
    exact ⟨is_mk _ _, Grow.refl _⟩
  case o20 =>
    intro vals wq hRq hpq
    simp only [factsP, List.getD_cons_zero, List.getD_cons_succ] at hpq
    have f19 := hpq.1
    replace hpq := hpq.2
    clear hpq
    replace f19 : vals 19 = _ := f19
    simp only [List.getD_cons_zero, List.getD_cons_succ, canonP, f19]
    clear f19
    have hb4 := HG4.out.trans ((Grow.drew _).trans hRq)
    have c0 := (box_at hb4).1
    have c1 := (box_at hb4).2.1
    have c2 := (box_at hb4).2.2.1
    have c3 := (box_at hb4).2.2.2
    simp only [Oper.gives]
    go_simp
    exact ⟨is_mk _ _, Grow.refl _⟩
  case o21 =>
    intro vals wq hRq hpq
    simp only [factsP, List.getD_cons_zero, List.getD_cons_succ] at hpq
    have f19 := hpq.1
    replace hpq := hpq.2
    have f20 := hpq.1
    replace hpq := hpq.2
    clear hpq
    replace f19 : vals 19 = _ := f19
    replace f20 : vals 20 = _ := f20
    simp only [List.getD_cons_zero, List.getD_cons_succ, canonP, f19, f20]
    clear f19 f20
    simp only [Oper.gives]
    go_simp
    exact (HD1.out wq).mono fun e w' ⟨he, hg⟩ => ⟨_, he, is_mk _ _, hg⟩
  case o22 =>
    intro vals wq hRq hpq
    simp only [factsP, List.getD_cons_zero, List.getD_cons_succ] at hpq
    have f19 := hpq.1
    replace hpq := hpq.2
    clear hpq
    replace f19 : vals 19 = _ := f19
    simp only [List.getD_cons_zero, List.getD_cons_succ, canonP, f19]
    clear f19
    have hb4 := HG4.out.trans ((Grow.drew _).trans hRq)
    have c0 := (box_at hb4).1
    have c1 := (box_at hb4).2.1
    have c2 := (box_at hb4).2.2.1
    have c3 := (box_at hb4).2.2.2
    simp only [Oper.gives]
    go_simp
    exact ⟨is_mk _ _, Grow.refl _⟩
  case o23 =>
    intro vals wq hRq hpq
    simp only [factsP, List.getD_cons_zero, List.getD_cons_succ] at hpq
    have f19 := hpq.1
    replace hpq := hpq.2
    have f21 := hpq.1
    replace hpq := hpq.2
    have f22 := hpq.1
    replace hpq := hpq.2
    clear hpq
    replace f19 : vals 19 = _ := f19
    replace f21 : vals 21 = _ := f21
    replace f22 : vals 22 = _ := f22
    simp only [List.getD_cons_zero, List.getD_cons_succ, canonP, f19, f21, f22]
    clear f19 f21 f22
    simp only [Oper.gives]
    go_simp
    exact (HD2.out wq).mono fun e w' ⟨he, hg⟩ => ⟨_, he, is_mk _ _, hg⟩
  case o24 =>
    intro vals wq hRq hpq
    simp only [factsP, List.getD_cons_zero, List.getD_cons_succ] at hpq
    have f19 := hpq.1
    replace hpq := hpq.2
    have f21 := hpq.1
    replace hpq := hpq.2
    have f23 := hpq.1
    replace hpq := hpq.2
    clear hpq
    replace f19 : vals 19 = _ := f19
    replace f21 : vals 21 = _ := f21
    replace f23 : vals 23 = _ := f23
    simp only [List.getD_cons_zero, List.getD_cons_succ, canonP, f19, f21, f23]
    clear f19 f21 f23
    simp only [Oper.gives]
    go_simp
    exact ⟨is_mk _ _, Grow.refl _⟩
  case o25 =>
    intro vals wq hRq hpq
    simp only [factsP, List.getD_cons_zero, List.getD_cons_succ] at hpq
    have f19 := hpq.1
    replace hpq := hpq.2
    have f24 := hpq.1
    replace hpq := hpq.2
    clear hpq
    replace f19 : vals 19 = _ := f19
    replace f24 : vals 24 = _ := f24
    simp only [List.getD_cons_zero, List.getD_cons_succ, canonP, f19, f24]
    clear f19 f24
    simp only [Oper.gives]
    go_simp
    exact ⟨is_mk _ _, Grow.refl _⟩
  case o26 =>
    intro vals wq hRq hpq
    simp only [factsP, List.getD_cons_zero, List.getD_cons_succ] at hpq
    have f23 := hpq.1
    replace hpq := hpq.2
    have f25 := hpq.1
    replace hpq := hpq.2
    clear hpq
    replace f23 : vals 23 = _ := f23
    replace f25 : vals 25 = _ := f25
    simp only [List.getD_cons_zero, List.getD_cons_succ, canonP, f23, f25]
    clear f23 f25
    simp only [Oper.gives]
    go_simp
    exact ⟨is_mk _ _, Grow.refl _⟩
  case o27 =>
    intro vals wq hRq hpq
    simp only [factsP, List.getD_cons_zero, List.getD_cons_succ] at hpq
    have f26 := hpq.1
    replace hpq := hpq.2
    clear hpq
    replace f26 : vals 26 = _ := f26
    simp only [List.getD_cons_zero, List.getD_cons_succ, canonP, f26]
    clear f26
    simp only [Oper.gives]
    go_simp
    exact ⟨is_mk _ _, Grow.refl _⟩
  case o28 =>
    intro vals wq hRq hpq
    simp only [factsP, List.getD_cons_zero, List.getD_cons_succ] at hpq
    have f26 := hpq.1
    replace hpq := hpq.2
    clear hpq
    replace f26 : vals 26 = _ := f26
    simp only [List.getD_cons_zero, List.getD_cons_succ, canonP, f26]
    clear f26
    simp only [Oper.gives]
    go_simp
    exact ⟨is_mk _ _, Grow.refl _⟩
  case o29 =>
    intro vals wq hRq hpq
    simp only [factsP, List.getD_cons_zero, List.getD_cons_succ] at hpq
    have f26 := hpq.1
    replace hpq := hpq.2
    have f27 := hpq.1
    replace hpq := hpq.2
    have f28 := hpq.1
    replace hpq := hpq.2
    clear hpq
    replace f26 : vals 26 = _ := f26
    replace f27 : vals 27 = _ := f27
    replace f28 : vals 28 = _ := f28
    simp only [List.getD_cons_zero, List.getD_cons_succ, canonP, f26, f27, f28]
    clear f26 f27 f28
    simp only [Oper.gives]
    go_simp
    exact ⟨is_mk _ _, Grow.refl _⟩
  case o30 =>
    intro vals wq hRq hpq
    simp only [factsP, List.getD_cons_zero, List.getD_cons_succ] at hpq
    have f26 := hpq.1
    replace hpq := hpq.2
    have f29 := hpq.1
    replace hpq := hpq.2
    clear hpq
    replace f26 : vals 26 = _ := f26
    replace f29 : vals 29 = _ := f29
    simp only [List.getD_cons_zero, List.getD_cons_succ, canonP, f26, f29]
    clear f26 f29
    simp only [Oper.gives]
    go_simp
    exact ⟨is_mk _ _, Grow.refl _⟩
  case o31 =>
    intro vals wq hRq hpq
    simp only [factsP, List.getD_cons_zero, List.getD_cons_succ] at hpq
    have f26 := hpq.1
    replace hpq := hpq.2
    have f30 := hpq.1
    replace hpq := hpq.2
    clear hpq
    replace f26 : vals 26 = _ := f26
    replace f30 : vals 30 = _ := f30
    simp only [List.getD_cons_zero, List.getD_cons_succ, canonP, f26, f30]
    clear f26 f30
    simp only [Oper.gives]
    go_simp
    exact ⟨is_mk _ _, Grow.refl _⟩
  case o32 =>
    intro vals wq hRq hpq
    simp only [factsP, List.getD_cons_zero, List.getD_cons_succ] at hpq
    have f31 := hpq.1
    replace hpq := hpq.2
    clear hpq
    replace f31 : vals 31 = _ := f31
    simp only [List.getD_cons_zero, List.getD_cons_succ, canonP, f31]
    clear f31
    simp only [Oper.gives]
    go_simp
    exact ⟨is_mk _ _, Grow.refl _⟩
  case o33 =>
    intro vals wq hRq hpq
    simp only [factsP, List.getD_cons_zero, List.getD_cons_succ] at hpq
    have f31 := hpq.1
    replace hpq := hpq.2
    clear hpq
    replace f31 : vals 31 = _ := f31
    simp only [List.getD_cons_zero, List.getD_cons_succ, canonP, f31]
    clear f31
    simp only [Oper.gives]
    go_simp
    exact ⟨is_mk _ _, Grow.refl _⟩
  case o34 =>
    intro vals wq hRq hpq
    simp only [factsP, List.getD_cons_zero, List.getD_cons_succ] at hpq
    have f31 := hpq.1
    replace hpq := hpq.2
    have f32 := hpq.1
    replace hpq := hpq.2
    have f33 := hpq.1
    replace hpq := hpq.2
    clear hpq
    replace f31 : vals 31 = _ := f31
    replace f32 : vals 32 = _ := f32
    replace f33 : vals 33 = _ := f33
    simp only [List.getD_cons_zero, List.getD_cons_succ, canonP, f31, f32, f33]
    clear f31 f32 f33
    simp only [Oper.gives]
    go_simp
    exact ⟨is_mk _ _, Grow.refl _⟩
  case o35 =>
    intro vals wq hRq hpq
    simp only [factsP, List.getD_cons_zero, List.getD_cons_succ] at hpq
    have f31 := hpq.1
    replace hpq := hpq.2
    have f34 := hpq.1
    replace hpq := hpq.2
    clear hpq
    replace f31 : vals 31 = _ := f31
    replace f34 : vals 34 = _ := f34
    simp only [List.getD_cons_zero, List.getD_cons_succ, canonP, f31, f34]
    clear f31 f34
    simp only [Oper.gives]
    go_simp
    exact ⟨is_mk _ _, Grow.refl _⟩
  case o36 =>
    intro vals wq hRq hpq
    simp only [factsP, List.getD_cons_zero, List.getD_cons_succ] at hpq
    have f31 := hpq.1
    replace hpq := hpq.2
    have f35 := hpq.1
    replace hpq := hpq.2
    clear hpq
    replace f31 : vals 31 = _ := f31
    replace f35 : vals 35 = _ := f35
    simp only [List.getD_cons_zero, List.getD_cons_succ, canonP, f31, f35]
    clear f31 f35
    simp only [Oper.gives]
    go_simp
    exact ⟨is_mk _ _, Grow.refl _⟩
  case o37 =>
    intro vals wq hRq hpq
    simp only [factsP, List.getD_cons_zero, List.getD_cons_succ] at hpq
    have f36 := hpq.1
    replace hpq := hpq.2
    clear hpq
    replace f36 : vals 36 = _ := f36
    simp only [List.getD_cons_zero, List.getD_cons_succ, canonP, f36]
    clear f36
    simp only [Oper.gives]
    go_simp
    exact ⟨is_mk _ _, Grow.refl _⟩
  case o38 =>
    intro vals wq hRq hpq
    simp only [factsP, List.getD_cons_zero, List.getD_cons_succ] at hpq
    have f36 := hpq.1
    replace hpq := hpq.2
    clear hpq
    replace f36 : vals 36 = _ := f36
    simp only [List.getD_cons_zero, List.getD_cons_succ, canonP, f36]
    clear f36
    simp only [Oper.gives]
    go_simp
    exact ⟨is_mk _ _, Grow.refl _⟩
  case o39 =>
    intro vals wq hRq hpq
    simp only [factsP, List.getD_cons_zero, List.getD_cons_succ] at hpq
    have f36 := hpq.1
    replace hpq := hpq.2
    have f37 := hpq.1
    replace hpq := hpq.2
    have f38 := hpq.1
    replace hpq := hpq.2
    clear hpq
    replace f36 : vals 36 = _ := f36
    replace f37 : vals 37 = _ := f37
    replace f38 : vals 38 = _ := f38
    simp only [List.getD_cons_zero, List.getD_cons_succ, canonP, f36, f37, f38]
    clear f36 f37 f38
    simp only [Oper.gives]
    go_simp
    exact ⟨is_mk _ _, Grow.refl _⟩
  case o40 =>
    intro vals wq hRq hpq
    simp only [factsP, List.getD_cons_zero, List.getD_cons_succ] at hpq
    have f36 := hpq.1
    replace hpq := hpq.2
    have f39 := hpq.1
    replace hpq := hpq.2
    clear hpq
    replace f36 : vals 36 = _ := f36
    replace f39 : vals 39 = _ := f39
    simp only [List.getD_cons_zero, List.getD_cons_succ, canonP, f36, f39]
    clear f36 f39
    simp only [Oper.gives]
    go_simp
    exact ⟨is_mk _ _, Grow.refl _⟩
  case o41 =>
    intro vals wq hRq hpq
    simp only [factsP, List.getD_cons_zero, List.getD_cons_succ] at hpq
    have f36 := hpq.1
    replace hpq := hpq.2
    have f40 := hpq.1
    replace hpq := hpq.2
    clear hpq
    replace f36 : vals 36 = _ := f36
    replace f40 : vals 40 = _ := f40
    simp only [List.getD_cons_zero, List.getD_cons_succ, canonP, f36, f40]
    clear f36 f40
    simp only [Oper.gives]
    go_simp
    exact ⟨is_mk _ _, Grow.refl _⟩
  case o42 =>
    intro vals wq hRq hpq
    simp only [factsP, List.getD_cons_zero, List.getD_cons_succ] at hpq
    have f41 := hpq.1
    replace hpq := hpq.2
    clear hpq
    replace f41 : vals 41 = _ := f41
    simp only [List.getD_cons_zero, List.getD_cons_succ, canonP, f41]
    clear f41
    simp only [Oper.gives]
    go_simp
    exact ⟨is_mk _ _, Grow.refl _⟩
  case o43 =>
    intro vals wq hRq hpq
    simp only [factsP, List.getD_cons_zero, List.getD_cons_succ] at hpq
    have f41 := hpq.1
    replace hpq := hpq.2
    clear hpq
    replace f41 : vals 41 = _ := f41
    simp only [List.getD_cons_zero, List.getD_cons_succ, canonP, f41]
    clear f41
    simp only [Oper.gives]
    go_simp
    exact ⟨is_mk _ _, Grow.refl _⟩
  case o44 =>
    intro vals wq hRq hpq
    simp only [factsP, List.getD_cons_zero, List.getD_cons_succ] at hpq
    have f41 := hpq.1
    replace hpq := hpq.2
    have f42 := hpq.1
    replace hpq := hpq.2
    have f43 := hpq.1
    replace hpq := hpq.2
    clear hpq
    replace f41 : vals 41 = _ := f41
    replace f42 : vals 42 = _ := f42
    replace f43 : vals 43 = _ := f43
    simp only [List.getD_cons_zero, List.getD_cons_succ, canonP, f41, f42, f43]
    clear f41 f42 f43
    simp only [Oper.gives]
    go_simp
    exact ⟨is_mk _ _, Grow.refl _⟩
  case o45 =>
    intro vals wq hRq hpq
    simp only [factsP, List.getD_cons_zero, List.getD_cons_succ] at hpq
    have f41 := hpq.1
    replace hpq := hpq.2
    have f44 := hpq.1
    replace hpq := hpq.2
    clear hpq
    replace f41 : vals 41 = _ := f41
    replace f44 : vals 44 = _ := f44
    simp only [List.getD_cons_zero, List.getD_cons_succ, canonP, f41, f44]
    clear f41 f44
    simp only [Oper.gives]
    go_simp
    exact ⟨is_mk _ _, Grow.refl _⟩
  case o46 =>
    intro vals wq hRq hpq
    simp only [factsP, List.getD_cons_zero, List.getD_cons_succ] at hpq
    have f41 := hpq.1
    replace hpq := hpq.2
    have f45 := hpq.1
    replace hpq := hpq.2
    clear hpq
    replace f41 : vals 41 = _ := f41
    replace f45 : vals 45 = _ := f45
    simp only [List.getD_cons_zero, List.getD_cons_succ, canonP, f41, f45]
    clear f41 f45
    simp only [Oper.gives]
    go_simp
    exact ⟨is_mk _ _, Grow.refl _⟩
  case o47 =>
    intro vals wq hRq hpq
    simp only [factsP, List.getD_cons_zero, List.getD_cons_succ] at hpq
    have f46 := hpq.1
    replace hpq := hpq.2
    clear hpq
    replace f46 : vals 46 = _ := f46
    simp only [List.getD_cons_zero, List.getD_cons_succ, canonP, f46]
    clear f46
    simp only [Oper.gives]
    go_simp
    exact ⟨is_mk _ _, Grow.refl _⟩
  case o48 =>
    intro vals wq hRq hpq
    simp only [factsP, List.getD_cons_zero, List.getD_cons_succ] at hpq
    have f46 := hpq.1
    replace hpq := hpq.2
    clear hpq
    replace f46 : vals 46 = _ := f46
    simp only [List.getD_cons_zero, List.getD_cons_succ, canonP, f46]
    clear f46
    simp only [Oper.gives]
    go_simp
    exact ⟨is_mk _ _, Grow.refl _⟩
  case o49 =>
    intro vals wq hRq hpq
    simp only [factsP, List.getD_cons_zero, List.getD_cons_succ] at hpq
    have f46 := hpq.1
    replace hpq := hpq.2
    have f47 := hpq.1
    replace hpq := hpq.2
    have f48 := hpq.1
    replace hpq := hpq.2
    clear hpq
    replace f46 : vals 46 = _ := f46
    replace f47 : vals 47 = _ := f47
    replace f48 : vals 48 = _ := f48
    simp only [List.getD_cons_zero, List.getD_cons_succ, canonP, f46, f47, f48]
    clear f46 f47 f48
    simp only [Oper.gives]
    go_simp
    exact ⟨is_mk _ _, Grow.refl _⟩
  case o50 =>
    intro vals wq hRq hpq
    simp only [factsP, List.getD_cons_zero, List.getD_cons_succ] at hpq
    have f46 := hpq.1
    replace hpq := hpq.2
    have f49 := hpq.1
    replace hpq := hpq.2
    clear hpq
    replace f46 : vals 46 = _ := f46
    replace f49 : vals 49 = _ := f49
    simp only [List.getD_cons_zero, List.getD_cons_succ, canonP, f46, f49]
    clear f46 f49
    simp only [Oper.gives]
    go_simp
    exact ⟨is_mk _ _, Grow.refl _⟩
  case o51 =>
    intro vals wq hRq hpq
    simp only [factsP, List.getD_cons_zero, List.getD_cons_succ] at hpq
    have f0 := hpq.1
    replace hpq := hpq.2
    have f1 := hpq.1
    replace hpq := hpq.2
    have f2 := hpq.1
    replace hpq := hpq.2
    have f3 := hpq.1
    replace hpq := hpq.2
    have f4 := hpq.1
    replace hpq := hpq.2
    have f5 := hpq.1
    replace hpq := hpq.2
    have f6 := hpq.1
    replace hpq := hpq.2
    have f7 := hpq.1
    replace hpq := hpq.2
    have f8 := hpq.1
    replace hpq := hpq.2
    have f9 := hpq.1
    replace hpq := hpq.2
    have f10 := hpq.1
    replace hpq := hpq.2
    have f11 := hpq.1
    replace hpq := hpq.2
    have f12 := hpq.1
    replace hpq := hpq.2
    have f13 := hpq.1
    replace hpq := hpq.2
    have f14 := hpq.1
    replace hpq := hpq.2
    have f15 := hpq.1
    replace hpq := hpq.2
    have f16 := hpq.1
    replace hpq := hpq.2
    have f17 := hpq.1
    replace hpq := hpq.2
    have f18 := hpq.1
    replace hpq := hpq.2
    have f19 := hpq.1
    replace hpq := hpq.2
    have f20 := hpq.1
    replace hpq := hpq.2
    have f21 := hpq.1
    replace hpq := hpq.2
    have f22 := hpq.1
    replace hpq := hpq.2
    have f23 := hpq.1
    replace hpq := hpq.2
    have f24 := hpq.1
    replace hpq := hpq.2
    have f25 := hpq.1
    replace hpq := hpq.2
    have f26 := hpq.1
    replace hpq := hpq.2
    have f27 := hpq.1
    replace hpq := hpq.2
    have f28 := hpq.1
    replace hpq := hpq.2
    have f29 := hpq.1
    replace hpq := hpq.2
    have f30 := hpq.1
    replace hpq := hpq.2
    have f31 := hpq.1
    replace hpq := hpq.2
    have f32 := hpq.1
    replace hpq := hpq.2
    have f33 := hpq.1
    replace hpq := hpq.2
    have f34 := hpq.1
    replace hpq := hpq.2
    have f35 := hpq.1
    replace hpq := hpq.2
    have f36 := hpq.1
    replace hpq := hpq.2
    have f37 := hpq.1
    replace hpq := hpq.2
    have f38 := hpq.1
    replace hpq := hpq.2
    have f39 := hpq.1
    replace hpq := hpq.2
    have f40 := hpq.1
    replace hpq := hpq.2
    have f41 := hpq.1
    replace hpq := hpq.2
    have f42 := hpq.1
    replace hpq := hpq.2
    have f43 := hpq.1
    replace hpq := hpq.2
    have f44 := hpq.1
    replace hpq := hpq.2
    have f45 := hpq.1
    replace hpq := hpq.2
    have f46 := hpq.1
    replace hpq := hpq.2
    have f47 := hpq.1
    replace hpq := hpq.2
    have f48 := hpq.1
    replace hpq := hpq.2
    have f49 := hpq.1
    replace hpq := hpq.2
    have f50 := hpq.1
    replace hpq := hpq.2
    clear hpq
    replace f0 : vals 0 = _ := f0
    replace f1 : vals 1 = _ := f1
    replace f2 : vals 2 = _ := f2
    replace f3 : vals 3 = _ := f3
    replace f4 : vals 4 = _ := f4
    replace f5 : vals 5 = _ := f5
    replace f6 : vals 6 = _ := f6
    replace f7 : vals 7 = _ := f7
    replace f8 : vals 8 = _ := f8
    replace f9 : vals 9 = _ := f9
    replace f10 : vals 10 = _ := f10
    replace f11 : vals 11 = _ := f11
    replace f12 : vals 12 = _ := f12
    replace f13 : vals 13 = _ := f13
    replace f14 : vals 14 = _ := f14
    replace f15 : vals 15 = _ := f15
    replace f16 : vals 16 = _ := f16
    replace f17 : vals 17 = _ := f17
    replace f18 : vals 18 = _ := f18
    replace f19 : vals 19 = _ := f19
    replace f20 : vals 20 = _ := f20
    replace f21 : vals 21 = _ := f21
    replace f22 : vals 22 = _ := f22
    replace f23 : vals 23 = _ := f23
    replace f24 : vals 24 = _ := f24
    replace f25 : vals 25 = _ := f25
    replace f26 : vals 26 = _ := f26
    replace f27 : vals 27 = _ := f27
    replace f28 : vals 28 = _ := f28
    replace f29 : vals 29 = _ := f29
    replace f30 : vals 30 = _ := f30
    replace f31 : vals 31 = _ := f31
    replace f32 : vals 32 = _ := f32
    replace f33 : vals 33 = _ := f33
    replace f34 : vals 34 = _ := f34
    replace f35 : vals 35 = _ := f35
    replace f36 : vals 36 = _ := f36
    replace f37 : vals 37 = _ := f37
    replace f38 : vals 38 = _ := f38
    replace f39 : vals 39 = _ := f39
    replace f40 : vals 40 = _ := f40
    replace f41 : vals 41 = _ := f41
    replace f42 : vals 42 = _ := f42
    replace f43 : vals 43 = _ := f43
    replace f44 : vals 44 = _ := f44
    replace f45 : vals 45 = _ := f45
    replace f46 : vals 46 = _ := f46
    replace f47 : vals 47 = _ := f47
    replace f48 : vals 48 = _ := f48
    replace f49 : vals 49 = _ := f49
    replace f50 : vals 50 = _ := f50
    simp only [List.getD_cons_zero, List.getD_cons_succ, canonP, f0, f1, f2, f3, f4, f5, f6, f7, f8, f9, f10, f11, f12, f13, f14, f15, f16, f17, f18, f19, f20, f21, f22, f23, f24, f25, f26, f27, f28, f29, f30, f31, f32, f33, f34, f35, f36, f37, f38, f39, f40, f41, f42, f43, f44, f45, f46, f47, f48, f49, f50]
    clear f0 f1 f2 f3 f4 f5 f6 f7 f8 f9 f10 f11 f12 f13 f14 f15 f16 f17 f18 f19 f20 f21 f22 f23 f24 f25 f26 f27 f28 f29 f30 f31 f32 f33 f34 f35 f36 f37 f38 f39 f40 f41 f42 f43 f44 f45 f46 f47 f48 f49 f50
    simp only [Oper.gives]
    go_simp
    exact ⟨is_mk _ _, Grow.refl _⟩
  intro vals wz hRwz hfwz
  simp only [AllFacts] at hfwz
  have g0 := hfwz.1
  replace hfwz := hfwz.2
  have g1 := hfwz.1
  replace hfwz := hfwz.2
  have g2 := hfwz.1
  replace hfwz := hfwz.2
  have g3 := hfwz.1
  replace hfwz := hfwz.2
  have g4 := hfwz.1
  replace hfwz := hfwz.2
  have g5 := hfwz.1
  replace hfwz := hfwz.2
  have g6 := hfwz.1
  replace hfwz := hfwz.2
  have g7 := hfwz.1
  replace hfwz := hfwz.2
  have g8 := hfwz.1
  replace hfwz := hfwz.2
  have g9 := hfwz.1
  replace hfwz := hfwz.2
  have g10 := hfwz.1
  replace hfwz := hfwz.2
  have g11 := hfwz.1
  replace hfwz := hfwz.2
  have g12 := hfwz.1
  replace hfwz := hfwz.2
  have g13 := hfwz.1
  replace hfwz := hfwz.2
  have g14 := hfwz.1
  replace hfwz := hfwz.2
  have g15 := hfwz.1
  replace hfwz := hfwz.2
  have g16 := hfwz.1
  replace hfwz := hfwz.2
  have g17 := hfwz.1
  replace hfwz := hfwz.2
  have g18 := hfwz.1
  replace hfwz := hfwz.2
  have g19 := hfwz.1
  replace hfwz := hfwz.2
  have g20 := hfwz.1
  replace hfwz := hfwz.2
  have g21 := hfwz.1
  replace hfwz := hfwz.2
  have g22 := hfwz.1
  replace hfwz := hfwz.2
  have g23 := hfwz.1
  replace hfwz := hfwz.2
  have g24 := hfwz.1
  replace hfwz := hfwz.2
  have g25 := hfwz.1
  replace hfwz := hfwz.2
  have g26 := hfwz.1
  replace hfwz := hfwz.2
  have g27 := hfwz.1
  replace hfwz := hfwz.2
  have g28 := hfwz.1
  replace hfwz := hfwz.2
  have g29 := hfwz.1
  replace hfwz := hfwz.2
  have g30 := hfwz.1
  replace hfwz := hfwz.2
  have g31 := hfwz.1
  replace hfwz := hfwz.2
  have g32 := hfwz.1
  replace hfwz := hfwz.2
  have g33 := hfwz.1
  replace hfwz := hfwz.2
  have g34 := hfwz.1
  replace hfwz := hfwz.2
  have g35 := hfwz.1
  replace hfwz := hfwz.2
  have g36 := hfwz.1
  replace hfwz := hfwz.2
  have g37 := hfwz.1
  replace hfwz := hfwz.2
  have g38 := hfwz.1
  replace hfwz := hfwz.2
  have g39 := hfwz.1
  replace hfwz := hfwz.2
  have g40 := hfwz.1
  replace hfwz := hfwz.2
  have g41 := hfwz.1
  replace hfwz := hfwz.2
  have g42 := hfwz.1
  replace hfwz := hfwz.2
  have g43 := hfwz.1
  replace hfwz := hfwz.2
  have g44 := hfwz.1
  replace hfwz := hfwz.2
  have g45 := hfwz.1
  replace hfwz := hfwz.2
  have g46 := hfwz.1
  replace hfwz := hfwz.2
  have g47 := hfwz.1
  replace hfwz := hfwz.2
  have g48 := hfwz.1
  replace hfwz := hfwz.2
  have g49 := hfwz.1
  replace hfwz := hfwz.2
  have g50 := hfwz.1
  replace hfwz := hfwz.2
  have g51 := hfwz.1
  replace hfwz := hfwz.2
  clear hfwz
  replace g0 : vals 0 = _ := g0
  replace g1 : vals 1 = _ := g1
  replace g2 : vals 2 = _ := g2
  replace g3 : vals 3 = _ := g3
  replace g4 : vals 4 = _ := g4
  replace g5 : vals 5 = _ := g5
  replace g6 : vals 6 = _ := g6
  replace g7 : vals 7 = _ := g7
  replace g8 : vals 8 = _ := g8
  replace g9 : vals 9 = _ := g9
  replace g10 : vals 10 = _ := g10
  replace g11 : vals 11 = _ := g11
  replace g12 : vals 12 = _ := g12
  replace g13 : vals 13 = _ := g13
  replace g14 : vals 14 = _ := g14
  replace g15 : vals 15 = _ := g15
  replace g16 : vals 16 = _ := g16
  replace g17 : vals 17 = _ := g17
  replace g18 : vals 18 = _ := g18
  replace g19 : vals 19 = _ := g19
  replace g20 : vals 20 = _ := g20
  replace g21 : vals 21 = _ := g21
  replace g22 : vals 22 = _ := g22
  replace g23 : vals 23 = _ := g23
  replace g24 : vals 24 = _ := g24
  replace g25 : vals 25 = _ := g25
  replace g26 : vals 26 = _ := g26
  replace g27 : vals 27 = _ := g27
  replace g28 : vals 28 = _ := g28
  replace g29 : vals 29 = _ := g29
  replace g30 : vals 30 = _ := g30
  replace g31 : vals 31 = _ := g31
  replace g32 : vals 32 = _ := g32
  replace g33 : vals 33 = _ := g33
  replace g34 : vals 34 = _ := g34
  replace g35 : vals 35 = _ := g35
  replace g36 : vals 36 = _ := g36
  replace g37 : vals 37 = _ := g37
  replace g38 : vals 38 = _ := g38
  replace g39 : vals 39 = _ := g39
  replace g40 : vals 40 = _ := g40
  replace g41 : vals 41 = _ := g41
  replace g42 : vals 42 = _ := g42
  replace g43 : vals 43 = _ := g43
  replace g44 : vals 44 = _ := g44
  replace g45 : vals 45 = _ := g45
  replace g46 : vals 46 = _ := g46
  replace g47 : vals 47 = _ := g47
  replace g48 : vals 48 = _ := g48
  replace g49 : vals 49 = _ := g49
  replace g50 : vals 50 = _ := g50
  replace g51 : vals 51 = _ := g51
  simp only [canonP, Act.put, List.setIfInBounds_toArray, List.set_cons_succ, List.set_cons_zero, g0, g1, g2, g3, g4, g5, g6, g7, g8, g9, g10, g11, g12, g13, g14, g15, g16, g17, g18, g19, g20, g21, g22, g23, g24, g25, g26, g27, g28, g29, g30, g31, g32, g33, g34, g35, g36, g37, g38, g39, g40, g41, g42, g43, g44, g45, g46, g47, g48, g49, g50, g51]
  clear g0 g1 g2 g3 g4 g5 g6 g7 g8 g9 g10 g11 g12 g13 g14 g15 g16 g17 g18 g19 g20 g21 g22 g23 g24 g25 g26 g27 g28 g29 g30 g31 g32 g33 g34 g35 g36 g37 g38 g39 g40 g41 g42 g43 g44 g45 g46 g47 g48 g49 g50 g51
  go_wp2_with fail
  go_ret
  exact ⟨rfl, (Grow.alloc _ _).trans (HG4.out.trans ((Grow.drew _).trans hRwz))⟩
#print axioms tells_walk
end Go.Proofs.Ytgakdaohhbdjoaa
