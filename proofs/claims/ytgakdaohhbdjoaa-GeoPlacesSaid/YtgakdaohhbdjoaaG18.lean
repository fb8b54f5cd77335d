/- The law GeoPlaces: the walk. -/
import Derived.Test.YtgakdaohhbdjoaaG17
set_option linter.unusedVariables false
set_option linter.unusedSimpArgs false
namespace Go.Proofs.Ytgakdaohhbdjoaa
open Go.RowKit Go.Shelf

def adr (sz ni jr c : Nat) : Nat := 256 * (4 + jr + (c - 1) / ni * sz) + 64 * ((c - 1) % ni)
theorem adr_mono (sz ni jr c : Nat) (h1 : 1 ≤ c) (hn : 4 ≤ ni) (hs : 3 + ni / 4 ≤ sz) : adr sz ni jr c < adr sz ni jr (c + 1) := by
  obtain ⟨d, rfl⟩ : ∃ d, c = d + 1 := ⟨c - 1, by omega⟩
  unfold adr
  have hd := Nat.div_add_mod d ni
  have hm := Nat.mod_lt d (show 0 < ni by omega)
  simp only [Nat.add_sub_cancel]
  generalize d / ni = x at *
  generalize hi : d % ni = i at *
  by_cases h : i + 1 < ni
  · have e1 : (d + 1) / ni = x := by rw [← hd, show ni * x + i + 1 = (i + 1) + ni * x by omega, Nat.add_mul_div_left _ _ (by omega), Nat.div_eq_of_lt h]; omega
    have e2 : (d + 1) % ni = i + 1 := by rw [← hd, show ni * x + i + 1 = (i + 1) + ni * x by omega, Nat.add_mul_mod_self_left, Nat.mod_eq_of_lt h]
    rw [e1, e2]
    omega
  · have e0 : d + 1 = ni * (x + 1) := by rw [Nat.mul_add]; omega
    have e1 : (d + 1) / ni = x + 1 := by rw [e0, Nat.mul_div_cancel_left _ (by omega)]
    have e2 : (d + 1) % ni = 0 := by rw [e0, Nat.mul_mod_right]
    rw [e1, e2, Nat.add_mul, Nat.one_mul]
    omega

theorem place_facts (gr sz ni jr c : Nat) (hM : May gr sz ni jr) (h1 : 1 ≤ c) (h2 : c ≤ gr * ni) : ∃ x i p m q4 r4 pos P AD : Int,
    Hid (∀ wq, Calls Try.prog 10 #[gv gr sz ni jr, .int .i64 (c : Int)] wq fun e w' => e = .returned (.tuple #[.int .i64 p, .int .i64 m, .bool true]) ∧ Grow wq w') ∧
    Hid (∀ wq, Calls Try.prog 12 #[gv gr sz ni jr, .int .i64 (c : Int)] wq fun e w' => e = .returned (.tuple #[.int .i64 x, .int .i64 i, .bool true]) ∧ Grow wq w') ∧
    Hid (IsWhat gr sz ni jr p 6 x pos) ∧
    Hid (∀ wq, Calls Try.prog 15 #[gv gr sz ni jr, .int .i64 x, .int .i64 i] wq fun e w' => e = .returned (.int .i64 (c : Int)) ∧ Grow wq w') ∧
    i.tdiv 4 = q4 ∧ IntKind.i64.wrap q4 = q4 ∧ IntKind.i64.wrap (2 + q4) = pos ∧ i.tmod 4 = r4 ∧ IntKind.i64.wrap r4 = r4 ∧ IntKind.i64.wrap (r4 * 64) = m ∧ IntKind.i64.wrap (p * 256) = P ∧ IntKind.i64.wrap (P + m) = AD ∧ AD = (adr sz ni jr c : Int) := by
  have hM' := hM
  obtain ⟨m1, m2, m3, m4, m5, m6, m7, m8, m9, m10, m11⟩ := hM'
  obtain ⟨d, rfl⟩ : ∃ d, c = d + 1 := ⟨c - 1, by omega⟩
  have e1 : ((gr : Int) * (ni : Int)) = ((gr * ni : Nat) : Int) := by simp
  have hN : nInodes gr sz ni jr = ((gr * ni : Nat) : Int) := by unfold nInodes; rw [if_pos hM, e1]
  have hin : 1 ≤ ((d + 1 : Nat) : Int) ∧ ((d + 1 : Nat) : Int) ≤ nInodes gr sz ni jr := by rw [hN]; omega
  have hd := Nat.div_add_mod d ni
  have hm := Nat.mod_lt d (show 0 < ni by omega)
  have hx : d / ni < gr := Nat.div_lt_of_lt_mul (by rw [Nat.mul_comm]; omega)
  have ed : (((d + 1 : Nat) : Int) - 1) = (d : Int) := by omega
  have ex : (d : Int) / (ni : Int) = ((d / ni : Nat) : Int) := by simp
  have ei : (d : Int) % (ni : Int) = ((d % ni : Nat) : Int) := by simp
  have hadr : adr sz ni jr (d + 1) = 256 * (4 + jr + d / ni * sz) + 64 * (d % ni) := by unfold adr; simp only [Nat.add_sub_cancel]
  generalize hxx : d / ni = x at *
  generalize hii : d % ni = i at *
  have hxs : x * sz ≤ 4 * 512 := Nat.mul_le_mul (by omega) (by omega)
  have exs : ((x : Int) * (sz : Int)) = ((x * sz : Nat) : Int) := by simp
  have hi4 : i / 4 ≤ 16 := by omega
  refine ⟨x, i, ((2 + jr + (x * sz + (2 + i / 4)) : Nat) : Int), ((i % 4 * 64 : Nat) : Int), ((i / 4 : Nat) : Int), ((i % 4 : Nat) : Int), ((2 + i / 4 : Nat) : Int), ((2 + jr + (x * sz + (2 + i / 4)) : Nat) : Int) * 256, (adr sz ni jr (d + 1) : Int), Lib.hid fun wq => ?_, Lib.hid fun wq => ?_, Lib.hid ?_, Lib.hid fun wq => ?_, ?_, ?_, ?_, ?_, ?_, ?_, ?_, ?_, rfl⟩
  · have := inode_any gr sz ni jr ((d + 1 : Nat) : Int) wq
    unfold inodeOf at this
    rw [if_pos hin, ed, ex, ei, exs] at this
    have e5 : (2 + (jr : Int) + ((x * sz : Nat) : Int) + 2 + (i : Int) / 4) = ((2 + jr + (x * sz + (2 + i / 4)) : Nat) : Int) := by omega
    have e6 : (i : Int) % 4 * 64 = ((i % 4 * 64 : Nat) : Int) := by omega
    rw [e5, e6] at this
    exact this
  · have := home_any gr sz ni jr ((d + 1 : Nat) : Int) wq
    unfold homeOf at this
    rw [if_pos hin, ed, ex, ei] at this
    exact this
  · have hw := whatOf_grp gr sz ni jr x (2 + i / 4) hM hx (by omega)
    rw [if_neg (by omega), if_pos (by omega)] at hw
    exact isWhat_of hw
  · have := number_yes gr sz ni jr x i hM (by omega) (by omega) (by omega) (by omega) wq
    have e5 : (x : Int) * (ni : Int) + (i : Int) + 1 = ((d + 1 : Nat) : Int) := by
      have : ((ni * x : Nat) : Int) = (x : Int) * (ni : Int) := by rw [Nat.mul_comm]; simp
      omega
    rw [e5] at this
    exact this
  · rw [Int.tdiv_eq_ediv_of_nonneg (by omega)]; omega
  · exact IntWalk.i64_in _ (by omega)
  · rw [IntWalk.i64_in _ (by omega)]; omega
  · rw [Int.tmod_eq_emod_of_nonneg (by omega)]; omega
  · exact IntWalk.i64_in _ (by omega)
  · rw [IntWalk.i64_in _ (by omega)]; omega
  · exact IntWalk.i64_in _ (by omega)
  · rw [hadr, IntWalk.i64_in _ (by omega)]; omega

set_option maxRecDepth 100000 in
set_option maxHeartbeats 4000000 in
theorem places_may (gr sz ni jr : Nat) (hM : May gr sz ni jr) (w : World) :
    Calls Try.prog 6 #[gv gr sz ni jr] w fun e w' => e = .returned (.bool true) ∧ Below w.heap.size w w' := by
  have HM := Lib.hid hM
  obtain ⟨N, hN⟩ : ∃ N : Nat, N = gr * ni := ⟨_, rfl⟩
  have e1 : nInodes gr sz ni jr = (N : Int) := by unfold nInodes; rw [if_pos hM, hN]; simp
  have hN2 : N ≤ 4 * 64 := by
    obtain ⟨m1, m2, m3, m4, m5, m6, m7, m8, m9, m10, m11⟩ := hM
    rw [hN]; exact Nat.mul_le_mul (by omega) (by omega)
  have HE := Lib.hid e1
  have HN := Lib.hid hN
  have HIno := Lib.hid (inode_no gr sz ni jr ((N : Int) + 1) (.inr (by rw [e1]; omega)))
  have HHno := Lib.hid (home_no gr sz ni jr 0 (.inl (by omega)))
  clear hM e1 hN
  go_enter Try.func6, Try.ntmps6
  go_wp2_with fail
  refine (awake_ok _).mono ?_
  rintro e w1 ⟨rfl, hg⟩
  have HG1 := Lib.hid hg
  clear hg
  obtain ⟨c0, c1, c2, c3⟩ := box_at HG1.out
  go_wp2_with fail
  refine (inodes_any gr sz ni jr _).mono ?_
  rintro e w2 ⟨rfl, hg⟩
  rw [HE.out]
  have HG2 := Lib.hid (HG1.out.trans hg)
  clear hg c0 c1 c2 c3
  go_wp2_with fail
  go_loopw [4, 5] (fun l i wr => ∃ (c : Nat) (L : Int), 1 ≤ c ∧ c ≤ N + 1 ∧ i = .int .i64 (c : Int) ∧ l = .int .i64 L ∧ L < (adr sz ni jr c : Int) ∧ Grow (w.alloc (gbox gr sz ni jr)) wr) (fun _ i _ => N + 1 - (intOf i).toNat)
  case atStart => exact ⟨1, -1, by omega, by omega, rfl, rfl, by omega, HG2.out⟩
  case round =>
    obtain ⟨c, L, hc1, hc2, rfl, rfl, hL, hG⟩ := hrel
    have HL := Lib.hid hL
    have HG := Lib.hid hG
    clear hL hG
    obtain ⟨c0, c1, c2, c3⟩ := box_at HG.out
    by_cases hlt : c ≤ N
    · obtain ⟨x, i, p, m, q4, r4, pos, P, AD, HI, HH, HW, HNu, f1, f2, f3, f4, f5, f6, f7, f8, hAD⟩ := place_facts gr sz ni jr c HM.out hc1 (by rw [← HN.out]; exact hlt)
      have hd : decide (AD ≤ L) = false := by have := HL.out; simp; omega
      have HAD := Lib.hid hAD
      clear hAD
      go_wp2_with fail
      refine (HI.out _).mono ?_
      rintro e w3 ⟨rfl, hg⟩
      have HG3 := Lib.hid (HG.out.trans hg)
      clear hg c0 c1 c2 c3
      obtain ⟨c0, c1, c2, c3⟩ := box_at HG3.out
      go_wp2_with fail
      refine (HH.out _).mono ?_
      rintro e w4 ⟨rfl, hg⟩
      have HG4 := Lib.hid (HG3.out.trans hg)
      clear hg c0 c1 c2 c3
      obtain ⟨c0, c1, c2, c3⟩ := box_at HG4.out
      go_wp2_with fail
      refine (HW.out _).mono ?_
      rintro e w5 ⟨rfl, hg⟩
      have HG5 := Lib.hid (HG4.out.trans hg)
      clear hg c0 c1 c2 c3
      obtain ⟨c0, c1, c2, c3⟩ := box_at HG5.out
      go_wp2_with fail
      refine (HNu.out _).mono ?_
      rintro e w6 ⟨rfl, hg⟩
      have HG6 := Lib.hid (HG5.out.trans hg)
      clear hg c0 c1 c2 c3
      go_wp2_with fail
      go_roundw
      case rel =>
        obtain ⟨_, _, _, _, m5, _, _, _, _, m10, _⟩ := HM.out
        exact ⟨c + 1, AD, by omega, by omega, by go_num, rfl, by rw [HAD.out]; have := adr_mono sz ni jr c hc1 (by omega) (by omega); omega, HG6.out⟩
      case measure => simp [intOf]; omega
    · obtain rfl : c = N + 1 := by omega
      go_wp2_with fail
      refine (HIno.out _).mono ?_
      rintro e w3 ⟨rfl, hg⟩
      have HG3 := Lib.hid (HG.out.trans hg)
      clear hg c0 c1 c2 c3
      obtain ⟨c0, c1, c2, c3⟩ := box_at HG3.out
      go_wp2_with fail
      refine (HHno.out _).mono ?_
      rintro e w4 ⟨rfl, hg⟩
      have HG4 := Lib.hid (HG3.out.trans hg)
      clear hg c0 c1 c2 c3
      go_wp2_with fail
      go_ret
      exact ⟨rfl, (Grow.alloc _ _).trans HG4.out⟩
set_option maxRecDepth 100000 in
set_option maxHeartbeats 4000000 in
theorem places_no (gr sz ni jr : Int) (hM : ¬ May gr sz ni jr) (w : World) :
    Calls Try.prog 6 #[gv gr sz ni jr] w fun e w' => e = .returned (.bool true) ∧ Below w.heap.size w w' := by
  have e1 : nInodes gr sz ni jr = 0 := by unfold nInodes; rw [if_neg hM]
  have HE := Lib.hid e1
  have HIno := Lib.hid (inode_no gr sz ni jr 1 (.inr (by rw [e1]; omega)))
  have HHno := Lib.hid (home_no gr sz ni jr 0 (.inl (by omega)))
  clear hM e1
  go_enter Try.func6, Try.ntmps6
  go_wp2_with fail
  refine (awake_ok _).mono ?_
  rintro e w1 ⟨rfl, hg⟩
  have HG1 := Lib.hid hg
  clear hg
  obtain ⟨c0, c1, c2, c3⟩ := box_at HG1.out
  go_wp2_with fail
  refine (inodes_any gr sz ni jr _).mono ?_
  rintro e w2 ⟨rfl, hg⟩
  rw [HE.out]
  have HG2 := Lib.hid (HG1.out.trans hg)
  clear hg c0 c1 c2 c3
  obtain ⟨c0, c1, c2, c3⟩ := box_at HG2.out
  go_wp2_with fail
  go_loop [4, 5] (fun l i => l = .int .i64 (-1) ∧ i = .int .i64 1) (fun _ _ => 0)
  case atStart => exact ⟨rfl, rfl⟩
  case round =>
    obtain ⟨rfl, rfl⟩ := hrel
    go_wp2_with fail
    refine (HIno.out _).mono ?_
    rintro e w3 ⟨rfl, hg⟩
    have HG3 := Lib.hid (HG2.out.trans hg)
    clear hg c0 c1 c2 c3
    obtain ⟨c0, c1, c2, c3⟩ := box_at HG3.out
    go_wp2_with fail
    refine (HHno.out _).mono ?_
    rintro e w4 ⟨rfl, hg⟩
    have HG4 := Lib.hid (HG3.out.trans hg)
    clear hg c0 c1 c2 c3
    go_wp2_with fail
    go_ret
    exact ⟨rfl, (Grow.alloc _ _).trans HG4.out⟩
theorem places_walk (gr sz ni jr : Int) (w : World) :
    Calls Try.prog 6 #[gv gr sz ni jr] w fun e w' => e = .returned (.bool true) ∧ Below w.heap.size w w' := by
  by_cases h : May gr sz ni jr
  · obtain ⟨a, b, c, d, rfl, rfl, rfl, rfl⟩ := may_nat h
    exact places_may a b c d h w
  · exact places_no gr sz ni jr h w
#print axioms places_walk
end Go.Proofs.Ytgakdaohhbdjoaa
