/- The law GeoStarts: the walk. -/
import Derived.Test.YtgakdaohhbdjoaaG14
set_option linter.unusedVariables false
set_option linter.unusedSimpArgs false
namespace Go.Proofs.Ytgakdaohhbdjoaa
open Go.RowKit Go.Shelf

def IsWhat (gr sz ni jr b : Int) (t g p : Int) : Prop := ∀ wq, Calls Try.prog 18 #[gv gr sz ni jr, .int .i64 b] wq fun e w' => e = .returned (.tuple #[.int .u8 t, .int .i64 g, .int .i64 p]) ∧ Grow wq w'

set_option maxRecDepth 100000 in
set_option maxHeartbeats 2000000 in
theorem starts_last (gr sz ni jr k A A1 A2 s1 s2 g1 x1 x2 y1 y2 : Int) (HM : Hid (May gr sz ni jr)) (HS : Hid (∀ wq, Calls Try.prog 16 #[gv gr sz ni jr, .int .i64 k] wq fun e w' => e = .returned (.tuple #[.int .i64 A, .bool true]) ∧ Grow wq w'))
    (HW0 : Hid (IsWhat gr sz ni jr A 4 k 0)) (HW1 : Hid (IsWhat gr sz ni jr A1 7 x1 x2)) (HW2 : Hid (IsWhat gr sz ni jr A2 0 y1 y2)) (HBL : Hid (∀ wq, Calls Try.prog 22 #[gv gr sz ni jr] wq fun e w' => e = .returned (.int .i64 A2) ∧ Grow wq w'))
    (E1 : IntKind.i64.wrap (2 + jr) = s1) (E2 : IntKind.i64.wrap (k * sz) = s2) (E3 : IntKind.i64.wrap (s1 + s2) = A) (E4 : IntKind.i64.wrap (A + sz) = A2) (E5 : IntKind.i64.wrap (A2 - 1) = A1) (E6 : IntKind.i64.wrap (gr - 1) = g1) (T : (k == g1) = true) (w : World) :
    Calls Try.prog 9 #[gv gr sz ni jr, .int .i64 k] w fun e w' => e = .returned (.bool true) ∧ Below w.heap.size w w' := by
  have HE4 := Lib.hid E4
  go_enter Try.func9, Try.ntmps9
  go_wp2_with fail
  refine (awake_ok _).mono ?_
  rintro e w1 ⟨rfl, hg⟩
  have HG1 := Lib.hid hg
  clear hg
  obtain ⟨c0, c1, c2, c3⟩ := box_at HG1.out
  go_wp2_with fail
  refine (HS.out _).mono ?_
  rintro e w2 ⟨rfl, hg⟩
  have HG2 := Lib.hid (HG1.out.trans hg)
  clear hg c0 c1 c2 c3
  obtain ⟨c0, c1, c2, c3⟩ := box_at HG2.out
  go_wp2_with fail
  refine (HW0.out _).mono ?_
  rintro e w3 ⟨rfl, hg⟩
  have HG3 := Lib.hid (HG2.out.trans hg)
  clear hg c0 c1 c2 c3
  obtain ⟨c0, c1, c2, c3⟩ := box_at HG3.out
  go_wp2_with fail
  refine (may_yes gr sz ni jr HM.out _).mono ?_
  rintro e w4 ⟨rfl, hg⟩
  have HG4 := Lib.hid (HG3.out.trans hg)
  clear hg c0 c1 c2 c3
  obtain ⟨c0, c1, c2, c3⟩ := box_at HG4.out
  go_wp2_with fail
  refine (HW1.out _).mono ?_
  rintro e w5 ⟨rfl, hg⟩
  have HG5 := Lib.hid (HG4.out.trans hg)
  clear hg c0 c1 c2 c3
  obtain ⟨c0, c1, c2, c3⟩ := box_at HG5.out
  go_wp2_with fail
  refine (HW2.out _).mono ?_
  rintro e w6 ⟨rfl, hg⟩
  have HG6 := Lib.hid (HG5.out.trans hg)
  clear hg c0 c1 c2 c3
  obtain ⟨c0, c1, c2, c3⟩ := box_at HG6.out
  go_wp2_with fail
  clear E1 E2 E3 E4 E5 E6 T c0 c1 c2 c3
  refine wp_region_facts (by kernel_rfl) [[], [(0, some 104)], [(1, some 105)], [(2, some 106)], [(2, some 106), (3, some 107)], [(2, some 106), (4, some 108)], [(2, some 106), (5, some 109)], [(6, some 110)], [(6, some 110)], [(6, some 110), (8, some 112)], [(6, some 110), (7, some 111), (9, some 113)], [(6, some 110)], [(6, some 110), (11, some 115)], [(6, some 110), (10, some 114), (12, some 116)], [(6, some 110), (13, some 117)], [(0, some 104), (1, some 105), (2, some 106), (3, some 107), (4, some 108), (5, some 109), (6, some 110), (7, some 111), (8, some 112), (9, some 113), (10, some 114), (11, some 115), (12, some 116), (13, some 117), (14, some 118)]] [(0, some 104), (1, some 105), (2, some 106), (3, some 107), (4, some 108), (5, some 109), (6, some 110), (7, some 111), (8, some 112), (9, some 113), (10, some 114), (11, some 115), (12, some 116), (13, some 117), (14, some 118), (15, some 4)] (by kernel_rfl) (by kernel_rfl) (by kernel_rfl) (Grow) Grow.refl (fun _ _ _ h h' => Grow.trans h h') [Is (Value.int .u8 7), Is (Value.bool true), Is (Value.bool true), Is (Value.int .u8 0), Is (Value.bool true), Is (Value.bool true), Is (Value.bool true), Is (Value.int .i64 A), Is (Value.pointer (some ⟨w.heap.size, 1, none⟩)), Is (Value.int .i64 sz), Is (Value.int .i64 A2), Is (Value.agg #[Value.int .i64 gr, Value.int .i64 sz, Value.int .i64 ni, Value.int .i64 jr]), Is (Value.int .i64 A2), Is (Value.bool true), Is (Value.bool true), Is (Value.bool true)] rfl ⟨is_stab _ _, is_stab _ _, is_stab _ _, is_stab _ _, is_stab _ _, is_stab _ _, is_stab _ _, is_stab _ _, is_stab _ _, is_stab _ _, is_stab _ _, is_stab _ _, is_stab _ _, is_stab _ _, is_stab _ _, is_stab _ _, trivial⟩ ⟨?o0, ?o1, ?o2, ?o3, ?o4, ?o5, ?o6, ?o7, ?o8, ?o9, ?o10, ?o11, ?o12, ?o13, ?o14, ?o15, trivial⟩ ?_
  case o0 =>
    intro vals wq hRq hpq
    simp only [List.getD_cons_zero, List.getD_cons_succ, canonP]
    simp only [Oper.gives]
    go_simp
    exact ⟨is_mk _ _, Grow.refl _⟩
  case o1 =>
    intro vals wq hRq hpq
    simp only [factsP, List.getD_cons_zero, List.getD_cons_succ] at hpq
    have f0 := hpq.1
    replace hpq := hpq.2
    clear hpq
    replace f0 : vals 0 = _ := f0
    simp only [List.getD_cons_zero, List.getD_cons_succ, canonP, f0]
    clear f0
    simp only [Oper.gives]
    go_simp
    exact ⟨is_mk _ _, Grow.refl _⟩
  case o2 =>
    intro vals wq hRq hpq
    simp only [factsP, List.getD_cons_zero, List.getD_cons_succ] at hpq
    have f1 := hpq.1
    replace hpq := hpq.2
    clear hpq
    replace f1 : vals 1 = _ := f1
    simp only [List.getD_cons_zero, List.getD_cons_succ, canonP, f1]
    clear f1
    simp only [Oper.gives]
    go_simp
    exact ⟨is_mk _ _, Grow.refl _⟩
  case o3 =>
    intro vals wq hRq hpq
    simp only [factsP, List.getD_cons_zero, List.getD_cons_succ] at hpq
    have f2 := hpq.1
    replace hpq := hpq.2
    clear hpq
    replace f2 : vals 2 = _ := f2
    simp only [List.getD_cons_zero, List.getD_cons_succ, canonP, f2]
    clear f2
    simp only [Oper.gives]
    go_simp
    exact ⟨is_mk _ _, Grow.refl _⟩
  case o4 =>
    intro vals wq hRq hpq
    simp only [factsP, List.getD_cons_zero, List.getD_cons_succ] at hpq
    have f2 := hpq.1
    replace hpq := hpq.2
    have f3 := hpq.1
    replace hpq := hpq.2
    clear hpq
    replace f2 : vals 2 = _ := f2
    replace f3 : vals 3 = _ := f3
    simp only [List.getD_cons_zero, List.getD_cons_succ, canonP, f2, f3]
    clear f2 f3
    simp only [Oper.gives]
    go_simp
    exact ⟨is_mk _ _, Grow.refl _⟩
  case o5 =>
    intro vals wq hRq hpq
    simp only [factsP, List.getD_cons_zero, List.getD_cons_succ] at hpq
    have f2 := hpq.1
    replace hpq := hpq.2
    have f4 := hpq.1
    replace hpq := hpq.2
    clear hpq
    replace f2 : vals 2 = _ := f2
    replace f4 : vals 4 = _ := f4
    simp only [List.getD_cons_zero, List.getD_cons_succ, canonP, f2, f4]
    clear f2 f4
    simp only [Oper.gives]
    go_simp
    exact ⟨is_mk _ _, Grow.refl _⟩
  case o6 =>
    intro vals wq hRq hpq
    simp only [factsP, List.getD_cons_zero, List.getD_cons_succ] at hpq
    have f2 := hpq.1
    replace hpq := hpq.2
    have f5 := hpq.1
    replace hpq := hpq.2
    clear hpq
    replace f2 : vals 2 = _ := f2
    replace f5 : vals 5 = _ := f5
    simp only [List.getD_cons_zero, List.getD_cons_succ, canonP, f2, f5]
    clear f2 f5
    simp only [Oper.gives]
    go_simp
    exact ⟨is_mk _ _, Grow.refl _⟩
  case o7 =>
    intro vals wq hRq hpq
    simp only [factsP, List.getD_cons_zero, List.getD_cons_succ] at hpq
    have f6 := hpq.1
    replace hpq := hpq.2
    clear hpq
    replace f6 : vals 6 = _ := f6
    simp only [List.getD_cons_zero, List.getD_cons_succ, canonP, f6]
    clear f6
    simp only [Oper.gives]
    go_simp
    exact ⟨is_mk _ _, Grow.refl _⟩
  case o8 =>
    intro vals wq hRq hpq
    simp only [factsP, List.getD_cons_zero, List.getD_cons_succ] at hpq
    have f6 := hpq.1
    replace hpq := hpq.2
    clear hpq
    replace f6 : vals 6 = _ := f6
    simp only [List.getD_cons_zero, List.getD_cons_succ, canonP, f6]
    clear f6
    simp only [Oper.gives]
    go_simp
    exact ⟨is_mk _ _, Grow.refl _⟩
  case o9 =>
    intro vals wq hRq hpq
    simp only [factsP, List.getD_cons_zero, List.getD_cons_succ] at hpq
    have f6 := hpq.1
    replace hpq := hpq.2
    have f8 := hpq.1
    replace hpq := hpq.2
    clear hpq
    replace f6 : vals 6 = _ := f6
    replace f8 : vals 8 = _ := f8
    simp only [List.getD_cons_zero, List.getD_cons_succ, canonP, f6, f8]
    clear f6 f8
    have hb4 := HG6.out.trans ((Grow.drew _).trans hRq)
    have c0 := (box_at hb4).1
    have c1 := (box_at hb4).2.1
    have c2 := (box_at hb4).2.2.1
    have c3 := (box_at hb4).2.2.2
    simp only [Oper.gives]
    go_simp
    exact ⟨is_mk _ _, Grow.refl _⟩
  case o10 =>
    intro vals wq hRq hpq
    simp only [factsP, List.getD_cons_zero, List.getD_cons_succ] at hpq
    have f6 := hpq.1
    replace hpq := hpq.2
    have f7 := hpq.1
    replace hpq := hpq.2
    have f9 := hpq.1
    replace hpq := hpq.2
    clear hpq
    replace f6 : vals 6 = _ := f6
    replace f7 : vals 7 = _ := f7
    replace f9 : vals 9 = _ := f9
    simp only [List.getD_cons_zero, List.getD_cons_succ, canonP, f6, f7, f9]
    clear f6 f7 f9
    have hh0 := HE4.out
    simp only [Oper.gives]
    go_simp
    exact ⟨is_mk _ _, Grow.refl _⟩
  case o11 =>
    intro vals wq hRq hpq
    simp only [factsP, List.getD_cons_zero, List.getD_cons_succ] at hpq
    have f6 := hpq.1
    replace hpq := hpq.2
    clear hpq
    replace f6 : vals 6 = _ := f6
    simp only [List.getD_cons_zero, List.getD_cons_succ, canonP, f6]
    clear f6
    have hb4 := HG6.out.trans ((Grow.drew _).trans hRq)
    have c0 := (box_at hb4).1
    have c1 := (box_at hb4).2.1
    have c2 := (box_at hb4).2.2.1
    have c3 := (box_at hb4).2.2.2
    simp only [Oper.gives]
    go_simp
    exact ⟨is_mk _ _, Grow.refl _⟩
  case o12 =>
    intro vals wq hRq hpq
    simp only [factsP, List.getD_cons_zero, List.getD_cons_succ] at hpq
    have f6 := hpq.1
    replace hpq := hpq.2
    have f11 := hpq.1
    replace hpq := hpq.2
    clear hpq
    replace f6 : vals 6 = _ := f6
    replace f11 : vals 11 = _ := f11
    simp only [List.getD_cons_zero, List.getD_cons_succ, canonP, f6, f11]
    clear f6 f11
    simp only [Oper.gives]
    go_simp
    exact (HBL.out wq).mono fun e w' ⟨he, hg⟩ => ⟨_, he, is_mk _ _, hg⟩
  case o13 =>
    intro vals wq hRq hpq
    simp only [factsP, List.getD_cons_zero, List.getD_cons_succ] at hpq
    have f6 := hpq.1
    replace hpq := hpq.2
    have f10 := hpq.1
    replace hpq := hpq.2
    have f12 := hpq.1
    replace hpq := hpq.2
    clear hpq
    replace f6 : vals 6 = _ := f6
    replace f10 : vals 10 = _ := f10
    replace f12 : vals 12 = _ := f12
    simp only [List.getD_cons_zero, List.getD_cons_succ, canonP, f6, f10, f12]
    clear f6 f10 f12
    simp only [Oper.gives]
    go_simp
    exact ⟨is_mk _ _, Grow.refl _⟩
  case o14 =>
    intro vals wq hRq hpq
    simp only [factsP, List.getD_cons_zero, List.getD_cons_succ] at hpq
    have f6 := hpq.1
    replace hpq := hpq.2
    have f13 := hpq.1
    replace hpq := hpq.2
    clear hpq
    replace f6 : vals 6 = _ := f6
    replace f13 : vals 13 = _ := f13
    simp only [List.getD_cons_zero, List.getD_cons_succ, canonP, f6, f13]
    clear f6 f13
    simp only [Oper.gives]
    go_simp
    exact ⟨is_mk _ _, Grow.refl _⟩
  case o15 =>
    intro vals wq hRq hpq
    simp only [factsP, List.getD_cons_zero, List.getD_cons_succ] at hpq
    have f0 := hpq.1
    replace hpq := hpq.2
    have f1 := hpq.1
    replace hpq := hpq.2
    have f2 := hpq.1
    replace hpq := hpq.2
    have f3 := hpq.1
    replace hpq := hpq.2
    have f4 := hpq.1
    replace hpq := hpq.2
    have f5 := hpq.1
    replace hpq := hpq.2
    have f6 := hpq.1
    replace hpq := hpq.2
    have f7 := hpq.1
    replace hpq := hpq.2
    have f8 := hpq.1
    replace hpq := hpq.2
    have f9 := hpq.1
    replace hpq := hpq.2
    have f10 := hpq.1
    replace hpq := hpq.2
    have f11 := hpq.1
    replace hpq := hpq.2
    have f12 := hpq.1
    replace hpq := hpq.2
    have f13 := hpq.1
    replace hpq := hpq.2
    have f14 := hpq.1
    replace hpq := hpq.2
    clear hpq
    replace f0 : vals 0 = _ := f0
    replace f1 : vals 1 = _ := f1
    replace f2 : vals 2 = _ := f2
    replace f3 : vals 3 = _ := f3
    replace f4 : vals 4 = _ := f4
    replace f5 : vals 5 = _ := f5
    replace f6 : vals 6 = _ := f6
    replace f7 : vals 7 = _ := f7
    replace f8 : vals 8 = _ := f8
    replace f9 : vals 9 = _ := f9
    replace f10 : vals 10 = _ := f10
    replace f11 : vals 11 = _ := f11
    replace f12 : vals 12 = _ := f12
    replace f13 : vals 13 = _ := f13
    replace f14 : vals 14 = _ := f14
    simp only [List.getD_cons_zero, List.getD_cons_succ, canonP, f0, f1, f2, f3, f4, f5, f6, f7, f8, f9, f10, f11, f12, f13, f14]
    clear f0 f1 f2 f3 f4 f5 f6 f7 f8 f9 f10 f11 f12 f13 f14
    simp only [Oper.gives]
    go_simp
    exact ⟨is_mk _ _, Grow.refl _⟩
  intro vals wz hRwz hfwz
  simp only [AllFacts] at hfwz
  have g0 := hfwz.1
  replace hfwz := hfwz.2
  have g1 := hfwz.1
  replace hfwz := hfwz.2
  have g2 := hfwz.1
  replace hfwz := hfwz.2
  have g3 := hfwz.1
  replace hfwz := hfwz.2
  have g4 := hfwz.1
  replace hfwz := hfwz.2
  have g5 := hfwz.1
  replace hfwz := hfwz.2
  have g6 := hfwz.1
  replace hfwz := hfwz.2
  have g7 := hfwz.1
  replace hfwz := hfwz.2
  have g8 := hfwz.1
  replace hfwz := hfwz.2
  have g9 := hfwz.1
  replace hfwz := hfwz.2
  have g10 := hfwz.1
  replace hfwz := hfwz.2
  have g11 := hfwz.1
  replace hfwz := hfwz.2
  have g12 := hfwz.1
  replace hfwz := hfwz.2
  have g13 := hfwz.1
  replace hfwz := hfwz.2
  have g14 := hfwz.1
  replace hfwz := hfwz.2
  have g15 := hfwz.1
  replace hfwz := hfwz.2
  clear hfwz
  replace g0 : vals 0 = _ := g0
  replace g1 : vals 1 = _ := g1
  replace g2 : vals 2 = _ := g2
  replace g3 : vals 3 = _ := g3
  replace g4 : vals 4 = _ := g4
  replace g5 : vals 5 = _ := g5
  replace g6 : vals 6 = _ := g6
  replace g7 : vals 7 = _ := g7
  replace g8 : vals 8 = _ := g8
  replace g9 : vals 9 = _ := g9
  replace g10 : vals 10 = _ := g10
  replace g11 : vals 11 = _ := g11
  replace g12 : vals 12 = _ := g12
  replace g13 : vals 13 = _ := g13
  replace g14 : vals 14 = _ := g14
  replace g15 : vals 15 = _ := g15
  simp only [canonP, Act.put, List.setIfInBounds_toArray, List.set_cons_succ, List.set_cons_zero, g0, g1, g2, g3, g4, g5, g6, g7, g8, g9, g10, g11, g12, g13, g14, g15]
  clear g0 g1 g2 g3 g4 g5 g6 g7 g8 g9 g10 g11 g12 g13 g14 g15
  go_wp2_with fail
  go_ret
  exact ⟨rfl, (Grow.alloc _ _).trans (HG6.out.trans ((Grow.drew _).trans hRwz))⟩
#print axioms starts_last
set_option maxRecDepth 100000 in
set_option maxHeartbeats 2000000 in
theorem starts_mid (gr sz ni jr k A A1 A2 s1 s2 g1 x1 x2 y1 y2 : Int) (HM : Hid (May gr sz ni jr)) (HS : Hid (∀ wq, Calls Try.prog 16 #[gv gr sz ni jr, .int .i64 k] wq fun e w' => e = .returned (.tuple #[.int .i64 A, .bool true]) ∧ Grow wq w'))
    (HW0 : Hid (IsWhat gr sz ni jr A 4 k 0)) (HW1 : Hid (IsWhat gr sz ni jr A1 7 x1 x2)) (HW2 : Hid (IsWhat gr sz ni jr A2 4 y1 y2))
    (E1 : IntKind.i64.wrap (2 + jr) = s1) (E2 : IntKind.i64.wrap (k * sz) = s2) (E3 : IntKind.i64.wrap (s1 + s2) = A) (E4 : IntKind.i64.wrap (A + sz) = A2) (E5 : IntKind.i64.wrap (A2 - 1) = A1) (E6 : IntKind.i64.wrap (gr - 1) = g1) (T : (k == g1) = false) (w : World) :
    Calls Try.prog 9 #[gv gr sz ni jr, .int .i64 k] w fun e w' => e = .returned (.bool true) ∧ Below w.heap.size w w' := by
  go_enter Try.func9, Try.ntmps9
  go_wp2_with fail
  refine (awake_ok _).mono ?_
  rintro e w1 ⟨rfl, hg⟩
  have HG1 := Lib.hid hg
  clear hg
  obtain ⟨c0, c1, c2, c3⟩ := box_at HG1.out
  go_wp2_with fail
  refine (HS.out _).mono ?_
  rintro e w2 ⟨rfl, hg⟩
  have HG2 := Lib.hid (HG1.out.trans hg)
  clear hg c0 c1 c2 c3
  obtain ⟨c0, c1, c2, c3⟩ := box_at HG2.out
  go_wp2_with fail
  refine (HW0.out _).mono ?_
  rintro e w3 ⟨rfl, hg⟩
  have HG3 := Lib.hid (HG2.out.trans hg)
  clear hg c0 c1 c2 c3
  obtain ⟨c0, c1, c2, c3⟩ := box_at HG3.out
  go_wp2_with fail
  refine (may_yes gr sz ni jr HM.out _).mono ?_
  rintro e w4 ⟨rfl, hg⟩
  have HG4 := Lib.hid (HG3.out.trans hg)
  clear hg c0 c1 c2 c3
  obtain ⟨c0, c1, c2, c3⟩ := box_at HG4.out
  go_wp2_with fail
  refine (HW1.out _).mono ?_
  rintro e w5 ⟨rfl, hg⟩
  have HG5 := Lib.hid (HG4.out.trans hg)
  clear hg c0 c1 c2 c3
  obtain ⟨c0, c1, c2, c3⟩ := box_at HG5.out
  go_wp2_with fail
  refine (HW2.out _).mono ?_
  rintro e w6 ⟨rfl, hg⟩
  have HG6 := Lib.hid (HG5.out.trans hg)
  clear hg c0 c1 c2 c3
  obtain ⟨c0, c1, c2, c3⟩ := box_at HG6.out
  go_wp2_with fail
  go_ret
  exact ⟨rfl, (Grow.alloc _ _).trans HG6.out⟩
#print axioms starts_mid
set_option maxRecDepth 100000 in
set_option maxHeartbeats 2000000 in
theorem starts_no (gr sz ni jr k : Int) (h : ¬ May gr sz ni jr ∨ k < 0 ∨ gr ≤ k) (w : World) :
    Calls Try.prog 9 #[gv gr sz ni jr, .int .i64 k] w fun e w' => e = .returned (.bool true) ∧ Below w.heap.size w w' := by
  have HS := Lib.hid (start_no gr sz ni jr k h)
  by_cases hM : May gr sz ni jr
  · have HM := Lib.hid hM
    by_cases hk : k < 0
    · have d1 : decide (k < 0) = true := by simpa using hk
      clear h hM
      go_enter Try.func9, Try.ntmps9
      go_wp2_with fail
      refine (awake_ok _).mono ?_
      rintro e w1 ⟨rfl, hg⟩
      have HG1 := Lib.hid hg
      clear hg
      obtain ⟨c0, c1, c2, c3⟩ := box_at HG1.out
      go_wp2_with fail
      refine (HS.out _).mono ?_
      rintro e w2 ⟨rfl, hg⟩
      have HG2 := Lib.hid (HG1.out.trans hg)
      clear hg c0 c1 c2 c3
      obtain ⟨c0, c1, c2, c3⟩ := box_at HG2.out
      go_wp2_with fail
      refine (may_yes gr sz ni jr HM.out _).mono ?_
      rintro e w3 ⟨rfl, hg⟩
      have HG3 := Lib.hid (HG2.out.trans hg)
      clear hg c0 c1 c2 c3
      go_wp2_with fail
      go_ret
      exact ⟨rfl, (Grow.alloc _ _).trans HG3.out⟩
    · have d1 : decide (k < 0) = false := by simpa using hk
      have d2 : decide (gr ≤ k) = true := by
        rcases h with h | h | h
        · exact absurd hM h
        · omega
        · simpa using h
      clear h hM
      go_enter Try.func9, Try.ntmps9
      go_wp2_with fail
      refine (awake_ok _).mono ?_
      rintro e w1 ⟨rfl, hg⟩
      have HG1 := Lib.hid hg
      clear hg
      obtain ⟨c0, c1, c2, c3⟩ := box_at HG1.out
      go_wp2_with fail
      refine (HS.out _).mono ?_
      rintro e w2 ⟨rfl, hg⟩
      have HG2 := Lib.hid (HG1.out.trans hg)
      clear hg c0 c1 c2 c3
      obtain ⟨c0, c1, c2, c3⟩ := box_at HG2.out
      go_wp2_with fail
      refine (may_yes gr sz ni jr HM.out _).mono ?_
      rintro e w3 ⟨rfl, hg⟩
      have HG3 := Lib.hid (HG2.out.trans hg)
      clear hg c0 c1 c2 c3
      obtain ⟨c0, c1, c2, c3⟩ := box_at HG3.out
      go_wp2_with fail
      go_ret
      exact ⟨rfl, (Grow.alloc _ _).trans HG3.out⟩
  · have HM := Lib.hid hM
    clear h hM
    go_enter Try.func9, Try.ntmps9
    go_wp2_with fail
    refine (awake_ok _).mono ?_
    rintro e w1 ⟨rfl, hg⟩
    have HG1 := Lib.hid hg
    clear hg
    obtain ⟨c0, c1, c2, c3⟩ := box_at HG1.out
    go_wp2_with fail
    refine (HS.out _).mono ?_
    rintro e w2 ⟨rfl, hg⟩
    have HG2 := Lib.hid (HG1.out.trans hg)
    clear hg c0 c1 c2 c3
    obtain ⟨c0, c1, c2, c3⟩ := box_at HG2.out
    go_wp2_with fail
    refine (may_no gr sz ni jr HM.out _).mono ?_
    rintro e w3 ⟨rfl, hg⟩
    have HG3 := Lib.hid (HG2.out.trans hg)
    clear hg c0 c1 c2 c3
    go_wp2_with fail
    go_ret
    exact ⟨rfl, (Grow.alloc _ _).trans HG3.out⟩

theorem whatOf_grp (gr sz ni jr k y : Nat) (hM : May gr sz ni jr) (hk : k < gr) (hy : y < sz) : whatOf gr sz ni jr ((2 + jr + (k * sz + y) : Nat) : Int) = thV (if y < 2 then ⟨4 + y, k, y, 0⟩ else if y < 2 + ni / 4 then ⟨6, k, y, 1 + k * ni + 4 * (y - 2)⟩ else ⟨7, k, y, 0⟩) := by
  have h1 : (k + 1) * sz ≤ gr * sz := Nat.mul_le_mul_right _ hk
  rw [Nat.add_mul, Nat.one_mul] at h1
  have e1 : ((gr : Int) * (sz : Int)) = ((gr * sz : Nat) : Int) := by simp
  unfold whatOf nBlocks
  rw [if_pos hM, e1, if_pos ⟨hM, by omega, by omega⟩]
  simp only [Int.toNat_natCast]
  rw [what_grp sz ni jr k y hy]
theorem isWhat_of {gr sz ni jr b : Int} {t g p : Nat} {i : Nat} (h : whatOf gr sz ni jr b = thV ⟨t, g, p, i⟩) : IsWhat gr sz ni jr b t g p := fun wq => by
  have := what_any gr sz ni jr b wq
  rw [h] at this
  exact this
theorem starts_walk (gr sz ni jr k : Int) (w : World) :
    Calls Try.prog 9 #[gv gr sz ni jr, .int .i64 k] w fun e w' => e = .returned (.bool true) ∧ Below w.heap.size w w' := by
  by_cases h : May gr sz ni jr ∧ 0 ≤ k ∧ k < gr
  · obtain ⟨hM, h0, h1⟩ := h
    obtain ⟨gr, sz, ni, jr, rfl, rfl, rfl, rfl⟩ := may_nat hM
    obtain ⟨k, rfl⟩ : ∃ k' : Nat, k = k' := ⟨k.toNat, by omega⟩
    have hk : k < gr := by omega
    have HS := Lib.hid (fun wq => start_yes gr sz ni jr k hM h0 h1 wq)
    have hM' := hM
    obtain ⟨m1, m2, m3, m4, m5, m6, m7, m8, m9, m10, m11⟩ := hM'
    have hks : k * sz ≤ 4 * 512 := Nat.mul_le_mul (by omega) (by omega)
    have e0 : ((k : Int) * (sz : Int)) = ((k * sz : Nat) : Int) := by simp
    have eA : (2 + (jr : Int) + (k : Int) * (sz : Int)) = ((2 + jr + (k * sz + 0) : Nat) : Int) := by rw [e0]; omega
    have w0 := isWhat_of (whatOf_grp gr sz ni jr k 0 hM hk (by omega))
    have w1 := whatOf_grp gr sz ni jr k (sz - 1) hM hk (by omega)
    rw [if_neg (by omega), if_neg (by omega)] at w1
    have w1 := isWhat_of w1
    by_cases hl : k = gr - 1
    · have hz : whatOf gr sz ni jr ((2 + jr + (k * sz + 0) + sz : Nat) : Int) = thV ⟨0, 0, 0, 0⟩ := by
        have e2 : gr * sz = k * sz + sz := by
          obtain rfl : gr = k + 1 := by omega
          rw [Nat.add_mul, Nat.one_mul]
        have e1 : ((gr : Int) * (sz : Int)) = ((gr * sz : Nat) : Int) := by simp
        unfold whatOf nBlocks
        rw [if_pos hM, e1, if_neg (fun c => by omega)]
        rfl
      have w2 := isWhat_of hz
      have hB : nBlocks gr sz ni jr = ((2 + jr + (k * sz + 0) + sz : Nat) : Int) := by
        have e2 : gr * sz = k * sz + sz := by
          obtain rfl : gr = k + 1 := by omega
          rw [Nat.add_mul, Nat.one_mul]
        have e1 : ((gr : Int) * (sz : Int)) = ((gr * sz : Nat) : Int) := by simp
        unfold nBlocks
        rw [if_pos hM, e1]
        omega
      have HBL := Lib.hid (fun wq => blocks_any gr sz ni jr wq)
      rw [hB] at HBL
      rw [eA] at HS
      refine starts_last gr sz ni jr k _ ((2 + jr + (k * sz + (sz - 1)) : Nat) : Int) _ (2 + (jr : Int)) ((k * sz : Nat) : Int) ((gr : Int) - 1) _ _ _ _ (Lib.hid hM) HS (Lib.hid w0) (Lib.hid w1) (Lib.hid w2) HBL (IntWalk.i64_in _ (by omega)) (by rw [e0]; exact IntWalk.i64_in _ (by omega)) (by rw [IntWalk.i64_in _ (by omega)]; omega) (by rw [IntWalk.i64_in _ (by omega)]; omega) (by rw [IntWalk.i64_in _ (by omega)]; omega) (IntWalk.i64_in _ (by omega)) (by simp; omega) w
    · have w2 := isWhat_of (whatOf_grp gr sz ni jr (k + 1) 0 hM (by omega) (by omega))
      have e2 : (k + 1) * sz = k * sz + sz := by rw [Nat.add_mul, Nat.one_mul]
      rw [e2] at w2
      rw [eA] at HS
      refine starts_mid gr sz ni jr k _ ((2 + jr + (k * sz + (sz - 1)) : Nat) : Int) _ (2 + (jr : Int)) ((k * sz : Nat) : Int) ((gr : Int) - 1) _ _ _ _ (Lib.hid hM) HS (Lib.hid w0) (Lib.hid w1) (Lib.hid w2) (IntWalk.i64_in _ (by omega)) (by rw [e0]; exact IntWalk.i64_in _ (by omega)) (by rw [IntWalk.i64_in _ (by omega)]; omega) (by rw [IntWalk.i64_in _ (by omega)]; omega) (by rw [IntWalk.i64_in _ (by omega)]; omega) (IntWalk.i64_in _ (by omega)) (by simp; omega) w
  · refine starts_no gr sz ni jr k ?_ w
    by_cases a : May gr sz ni jr
    · by_cases b : k < 0
      · exact .inr (.inl b)
      · exact .inr (.inr (Classical.byContradiction fun c => h ⟨a, by omega, by omega⟩))
    · exact .inl a
#print axioms starts_walk
end Go.Proofs.Ytgakdaohhbdjoaa
