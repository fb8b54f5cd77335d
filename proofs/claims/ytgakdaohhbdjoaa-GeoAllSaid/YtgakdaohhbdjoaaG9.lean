/- The law GeoInodes: the walk. -/
import Derived.Test.YtgakdaohhbdjoaaG8
set_option linter.unusedVariables false
set_option linter.unusedSimpArgs false
namespace Go.Proofs.Ytgakdaohhbdjoaa
open Go.RowKit

theorem may_nat {gr sz ni jr : Int} (h : May gr sz ni jr) : ∃ a b c d : Nat, gr = a ∧ sz = b ∧ ni = c ∧ jr = d := by
  obtain ⟨h1, h2, h3, h4, h5, h6, h7, h8, _⟩ := h
  exact ⟨gr.toNat, sz.toNat, ni.toNat, jr.toNat, by omega, by omega, by omega, by omega⟩
theorem rinode_any (gr sz ni jr ino : Int) (hino : I64 ino) (w : World) :
    Calls Try.prog 11 #[gv gr sz ni jr, .int .i64 ino] w fun e w' => e = .returned (inodeOf gr sz ni jr ino) ∧ Grow w w' := by
  by_cases h : May gr sz ni jr
  · obtain ⟨a, b, c, d, rfl, rfl, rfl, rfl⟩ := may_nat h
    exact rinode_may a b c d ino hino h w
  · have HM := Lib.hid h
    have HF := Lib.hid (show inodeOf gr sz ni jr ino = .tuple #[.int .i64 0, .int .i64 0, .bool false] by
      unfold inodeOf nInodes; rw [if_neg h, if_neg (by omega)])
    clear h
    go_enter Try.func11, Try.ntmps11
    go_wp2_with fail
    refine (rall_no gr sz ni jr HM.out _).mono ?_
    rintro e w1 ⟨rfl, hg⟩
    have HG := Lib.hid hg
    clear hg
    go_wp2_with fail
    go_loop [8] (fun ti => ti = .int .i64 0) (fun _ => 0)
    case atStart => rfl
    case round =>
      subst hrel
      go_wp2_with fail
      go_ret3
      exact ⟨by rw [HF.out]; rfl, (Grow.alloc _ _).trans HG.out⟩
theorem inode_any (gr sz ni jr ino : Int) (w : World) :
    Calls Try.prog 10 #[gv gr sz ni jr, .int .i64 ino] w fun e w' => e = .returned (inodeOf gr sz ni jr ino) ∧ Grow w w' := by
  unfold inodeOf
  by_cases h : 1 ≤ ino ∧ ino ≤ nInodes gr sz ni jr
  · have hm : May gr sz ni jr := by
      apply Classical.byContradiction
      intro hn
      unfold nInodes at h
      rw [if_neg hn] at h
      omega
    rw [if_pos h]
    refine inode_yes gr sz ni jr ino hm h.1 ?_ w
    have := h.2
    unfold nInodes at this
    rwa [if_pos hm] at this
  · rw [if_neg h]
    exact inode_no gr sz ni jr ino (by omega) w
theorem inode_form (gr sz ni jr ino : Int) : ∃ x y b, inodeOf gr sz ni jr ino = .tuple #[.int .i64 x, .int .i64 y, .bool b] := by
  unfold inodeOf; split <;> exact ⟨_, _, _, rfl⟩
theorem home_form (gr sz ni jr ino : Int) : ∃ x y b, homeOf gr sz ni jr ino = .tuple #[.int .i64 x, .int .i64 y, .bool b] := by
  unfold homeOf; split <;> exact ⟨_, _, _, rfl⟩

set_option maxRecDepth 100000 in
set_option maxHeartbeats 4000000 in
theorem inodes_walk (gr sz ni jr ino k b : Int) (hino : I64 ino) (w : World) :
    Calls Try.prog 3 #[gv gr sz ni jr, .int .i64 ino, .int .i64 k, .int .i64 b] w fun e w' => e = .returned (.bool true) ∧ Below w.heap.size w w' := by
  obtain ⟨x, y, t, hin⟩ := inode_form gr sz ni jr ino
  obtain ⟨x2, y2, t2, hho⟩ := home_form gr sz ni jr ino
  have HIN := Lib.hid hin
  have HHO := Lib.hid hho
  have HI := Lib.hid hino
  clear hin hho hino
  go_enter Try.func3, Try.ntmps3
  go_wp2_with fail
  refine (inode_any gr sz ni jr ino _).mono ?_
  rintro e w1 ⟨rfl, hg⟩
  rw [HIN.out]
  obtain ⟨c0, c1, c2, c3⟩ := box_at hg
  have HG1 := Lib.hid hg
  clear hg
  go_wp2_with fail
  refine (rinode_any gr sz ni jr ino HI.out _).mono ?_
  rintro e w2 ⟨rfl, hg⟩
  rw [HIN.out]
  clear c0 c1 c2 c3
  have hg := HG1.out.trans hg
  obtain ⟨c0, c1, c2, c3⟩ := box_at hg
  have HG2 := Lib.hid hg
  clear hg
  go_wp2_with fail
  refine (home_any gr sz ni jr ino _).mono ?_
  rintro e w3 ⟨rfl, hg⟩
  rw [HHO.out]
  clear c0 c1 c2 c3
  have hg := HG2.out.trans hg
  obtain ⟨c0, c1, c2, c3⟩ := box_at hg
  have HG3 := Lib.hid hg
  clear hg
  go_wp2_with fail
  refine (rhome_any gr sz ni jr ino _).mono ?_
  rintro e w4 ⟨rfl, hg⟩
  rw [HHO.out]
  clear c0 c1 c2 c3
  have hg := HG3.out.trans hg
  obtain ⟨c0, c1, c2, c3⟩ := box_at hg
  have HG4 := Lib.hid hg
  clear hg c0 c1 c2 c3
  generalize hnm : numberOf gr sz ni jr k b = nm at *
  have HNM := Lib.hid hnm
  clear hnm
  have hne : (nm != nm) = false := by simp
  go_wp2_with fail
  refine wp_region_facts (by kernel_rfl) [[], [], [], [(0, some 49), (1, some 50), (2, some 51)], [], [], [], [(3, some 52), (4, some 53), (5, some 54), (6, some 55)], [(3, some 52), (7, some 56)]] [(0, some 49), (1, some 50), (2, some 51), (3, some 52), (4, some 53), (5, some 54), (6, some 55), (7, some 56), (8, some 57)] (by kernel_rfl) (by kernel_rfl) (by kernel_rfl) (Grow) Grow.refl (fun _ _ _ h h' => Grow.trans h h') [Is (Value.agg #[.int .i64 gr, .int .i64 sz, .int .i64 ni, .int .i64 jr]), Is (Value.int .i64 k), Is (Value.int .i64 b), Is (Value.int .i64 nm), Is (Value.agg #[.int .i64 gr, .int .i64 sz, .int .i64 ni, .int .i64 jr]), Is (Value.int .i64 k), Is (Value.int .i64 b), Is (Value.int .i64 nm), Is (Value.bool false)] rfl ⟨is_stab _ _, is_stab _ _, is_stab _ _, is_stab _ _, is_stab _ _, is_stab _ _, is_stab _ _, is_stab _ _, is_stab _ _, trivial⟩ ⟨?o0, ?o1, ?o2, ?o3, ?o4, ?o5, ?o6, ?o7, ?o8, trivial⟩ ?_
  case o0 =>
    intro vals wq hRq hpq
    simp only [List.getD_cons_zero, List.getD_cons_succ, canonP]
    have hb4 := HG4.out.trans ((Grow.drew _).trans hRq)
    obtain ⟨c0, c1, c2, c3⟩ := box_at hb4
    simp only [Oper.gives]
    go_simp
    exact ⟨is_mk _ _, Grow.refl _⟩
  case o1 =>
    intro vals wq hRq hpq
    simp only [List.getD_cons_zero, List.getD_cons_succ, canonP]
    simp only [Oper.gives]
    go_simp
    exact ⟨is_mk _ _, Grow.refl _⟩
  case o2 =>
    intro vals wq hRq hpq
    simp only [List.getD_cons_zero, List.getD_cons_succ, canonP]
    simp only [Oper.gives]
    go_simp
    exact ⟨is_mk _ _, Grow.refl _⟩
  case o3 =>
    intro vals wq hRq hpq
    obtain ⟨f0, f1, f2, _⟩ := hpq
    replace f0 : vals 0 = _ := f0
    replace f1 : vals 1 = _ := f1
    replace f2 : vals 2 = _ := f2
    simp only [List.getD_cons_zero, List.getD_cons_succ, canonP, f0, f1, f2]
    clear f0 f1 f2
    simp only [Oper.gives]
    go_simp
    exact (rnumber_any gr sz ni jr k b wq).mono fun e w' ⟨he, hg⟩ => ⟨_, he, by rw [HNM.out]; exact is_mk _ _, hg⟩
  case o4 =>
    intro vals wq hRq hpq
    simp only [List.getD_cons_zero, List.getD_cons_succ, canonP]
    have hb4 := HG4.out.trans ((Grow.drew _).trans hRq)
    obtain ⟨c0, c1, c2, c3⟩ := box_at hb4
    simp only [Oper.gives]
    go_simp
    exact ⟨is_mk _ _, Grow.refl _⟩
  case o5 =>
    intro vals wq hRq hpq
    simp only [List.getD_cons_zero, List.getD_cons_succ, canonP]
    simp only [Oper.gives]
    go_simp
    exact ⟨is_mk _ _, Grow.refl _⟩
  case o6 =>
    intro vals wq hRq hpq
    simp only [List.getD_cons_zero, List.getD_cons_succ, canonP]
    simp only [Oper.gives]
    go_simp
    exact ⟨is_mk _ _, Grow.refl _⟩
  case o7 =>
    intro vals wq hRq hpq
    obtain ⟨f3, f4, f5, f6, _⟩ := hpq
    replace f3 : vals 3 = _ := f3
    replace f4 : vals 4 = _ := f4
    replace f5 : vals 5 = _ := f5
    replace f6 : vals 6 = _ := f6
    simp only [List.getD_cons_zero, List.getD_cons_succ, canonP, f3, f4, f5, f6]
    clear f3 f4 f5 f6
    simp only [Oper.gives]
    go_simp
    exact (number_any gr sz ni jr k b wq).mono fun e w' ⟨he, hg⟩ => ⟨_, he, by rw [HNM.out]; exact is_mk _ _, hg⟩
  case o8 =>
    intro vals wq hRq hpq
    obtain ⟨f3, f7, _⟩ := hpq
    replace f3 : vals 3 = _ := f3
    replace f7 : vals 7 = _ := f7
    simp only [List.getD_cons_zero, List.getD_cons_succ, canonP, f3, f7]
    clear f3 f7
    simp only [Oper.gives]
    go_simp
    exact ⟨is_mk _ _, Grow.refl _⟩
  intro vals wz hRwz hfwz
  obtain ⟨g0, g1, g2, g3, g4, g5, g6, g7, g8, -⟩ := hfwz
  replace g0 : vals 0 = _ := g0
  replace g1 : vals 1 = _ := g1
  replace g2 : vals 2 = _ := g2
  replace g3 : vals 3 = _ := g3
  replace g4 : vals 4 = _ := g4
  replace g5 : vals 5 = _ := g5
  replace g6 : vals 6 = _ := g6
  replace g7 : vals 7 = _ := g7
  replace g8 : vals 8 = _ := g8
  simp only [canonP, Act.put, List.setIfInBounds_toArray, List.set_cons_succ, List.set_cons_zero, g0, g1, g2, g3, g4, g5, g6, g7, g8]
  clear g0 g1 g2 g3 g4 g5 g6 g7 g8
  go_wp2_with fail
  go_ret
  exact ⟨rfl, (Grow.alloc _ _).trans (HG4.out.trans ((Grow.drew _).trans hRwz))⟩
end Go.Proofs.Ytgakdaohhbdjoaa
