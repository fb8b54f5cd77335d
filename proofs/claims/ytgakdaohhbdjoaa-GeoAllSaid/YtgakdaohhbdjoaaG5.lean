/- What the document's Home computes: the walk. -/
import Derived.Test.YtgakdaohhbdjoaaG4
set_option linter.unusedVariables false
set_option linter.unusedSimpArgs false
namespace Go.Proofs.Ytgakdaohhbdjoaa
open Go.RowKit

theorem home_at (ino ni k b : Int) (hn : 1 ≤ ni) (h : ino = k * ni + b + 1) (hb : 0 ≤ b) (hb2 : b < ni) : (ino - 1) / ni = k ∧ (ino - 1) % ni = b := by
  have e : ino - 1 = b + k * ni := by omega
  rw [e, Int.add_mul_ediv_right _ _ (by omega), Int.add_mul_emod_self_right, Int.ediv_eq_zero_of_lt hb hb2, Int.emod_eq_of_lt hb hb2]
  omega
/-- the answer of Home -/
def homeOf (gr sz ni jr ino : Int) : Value :=
  if 1 ≤ ino ∧ ino ≤ nInodes gr sz ni jr then .tuple #[.int .i64 ((ino - 1) / ni), .int .i64 ((ino - 1) % ni), .bool true] else .tuple #[.int .i64 0, .int .i64 0, .bool false]

set_option maxHeartbeats 2000000 in
theorem rhome_may (gr sz ni jr ino : Int) (h : May gr sz ni jr) (w : World) :
    Calls Try.prog 13 #[gv gr sz ni jr, .int .i64 ino] w fun e w' => e = .returned (homeOf gr sz ni jr ino) ∧ Grow w w' := by
  have HM := Lib.hid h
  have HN := Lib.hid (show nInodes gr sz ni jr = gr * ni from if_pos h)
  obtain ⟨g1, g2, g3, g4, g5, g6, _, g8, g9, _⟩ := h
  have hb0 := mul_gi g1 g2 g5 g6
  go_enter Try.func13, Try.ntmps13
  go_wp2_with fail
  refine (rmay_yes gr sz ni jr HM.out _).mono ?_
  rintro e w1 ⟨rfl, hg⟩
  have HG := Lib.hid hg
  clear hg
  go_wp2_with fail
  go_loopw [7] (fun tk wr => ∃ k : Nat, (k : Int) ≤ gr ∧ tk = .int .i64 (k : Int) ∧ (ino < 1 ∨ (k : Int) * ni < ino) ∧ Grow (w.alloc (gbox gr sz ni jr)) wr) (fun tk _ => (gr - intOf tk).toNat)
  case atStart => exact ⟨0, by omega, rfl, by omega, HG.out⟩
  case round =>
    obtain ⟨k, hk, rfl, hno, hgr⟩ := hrel
    obtain ⟨c0, c1, c2, c3⟩ := box_at hgr
    have HGR := Lib.hid hgr
    clear hgr
    by_cases hlt : (k : Int) < gr
    · obtain ⟨wo, rfl⟩ : ∃ wo : World, wo = wr := ⟨_, rfl⟩
      go_wp2_with fail
      go_loopw [8] (fun tb wx => ∃ b : Nat, (b : Int) ≤ ni ∧ tb = .int .i64 (b : Int) ∧ (ino < 1 ∨ (k : Int) * ni + (b : Int) < ino) ∧ Grow (w.alloc (gbox gr sz ni jr)) wx) (fun tb _ => (ni - intOf tb).toNat)
      case atStart => exact ⟨0, by omega, rfl, by omega, HGR.out⟩
      case round =>
        clear c0 c1 c2 c3
        obtain ⟨b, hbn, rfl, hno2, hgr2⟩ := hrel
        obtain ⟨c0, c1, c2, c3⟩ := box_at hgr2
        have HGR2 := Lib.hid hgr2
        clear hgr2
        by_cases hbl : (b : Int) < ni
        · by_cases heq : ino = (k : Int) * ni + (b : Int) + 1
          · have hh := home_at ino ni k b (by omega) heq (by omega) hbl
            have hle : ino ≤ gr * ni := by
              have h1 : (k : Int) * ni + ni ≤ gr * ni := by
                have h2 : ((k : Int) + 1) * ni ≤ gr * ni := Int.mul_le_mul_of_nonneg_right (by omega) (by omega)
                rw [Int.add_mul] at h2
                omega
              omega
            have HF := Lib.hid (show homeOf gr sz ni jr ino = .tuple #[.int .i64 (k : Int), .int .i64 (b : Int), .bool true] by
              have h0 : 0 ≤ (k : Int) * ni := Int.mul_nonneg (by omega) (by omega)
              unfold homeOf; rw [HN.out, if_pos ⟨by omega, hle⟩, hh.1, hh.2])
            have hbe : ((k : Int) * ni + (b : Int) + 1 == ino) = true := by rw [heq]; simp
            clear hh hle heq
            go_wp2_with fail
            refine (rnumber_yes gr sz ni jr k b HM.out (by omega) hlt (by omega) hbl _).mono ?_
            rintro e w3 ⟨rfl, hg3⟩
            have HG3 := Lib.hid hg3
            clear hg3
            go_wp2_with fail
            go_ret3
            exact ⟨by rw [HF.out]; rfl, (Grow.alloc _ _).trans (HGR2.out.trans HG3.out)⟩
          · have hbe : ((k : Int) * ni + (b : Int) + 1 == ino) = false := by rw [beq_eq_false_iff_ne]; omega
            have hno3 : ino < 1 ∨ (k : Int) * ni + ((b + 1 : Nat) : Int) < ino := by omega
            clear heq
            go_wp2_with fail
            refine (rnumber_yes gr sz ni jr k b HM.out (by omega) hlt (by omega) hbl _).mono ?_
            rintro e w3 ⟨rfl, hg3⟩
            have HG3 := Lib.hid hg3
            clear hg3
            go_wp2_with fail
            go_roundw
            case rel => exact ⟨b + 1, by omega, by go_num, hno3, HGR2.out.trans HG3.out⟩
            case measure => simp only [intOf]; omega
        · have hbe : (b : Int) = ni := by omega
          have hno3 : ino < 1 ∨ ((k + 1 : Nat) : Int) * ni < ino := by
            have e : ((k + 1 : Nat) : Int) * ni = (k : Int) * ni + ni := by
              rw [show ((k + 1 : Nat) : Int) = (k : Int) + 1 by omega, Int.add_mul]; omega
            omega
          clear hbe
          go_wp2_with fail
          go_roundw
          case rel => exact ⟨k + 1, by omega, by go_num, hno3, HGR2.out⟩
          case measure => simp only [intOf]; omega
    · have HF := Lib.hid (show homeOf gr sz ni jr ino = .tuple #[.int .i64 0, .int .i64 0, .bool false] by
        have hke : (k : Int) = gr := by omega
        rw [hke] at hno
        unfold homeOf; rw [HN.out, if_neg (by omega)])
      go_wp2_with fail
      go_ret3
      exact ⟨by rw [HF.out]; rfl, (Grow.alloc _ _).trans HGR.out⟩
theorem rhome_any (gr sz ni jr ino : Int) (w : World) :
    Calls Try.prog 13 #[gv gr sz ni jr, .int .i64 ino] w fun e w' => e = .returned (homeOf gr sz ni jr ino) ∧ Grow w w' := by
  by_cases h : May gr sz ni jr
  · exact rhome_may gr sz ni jr ino h w
  · have HM := Lib.hid h
    have HF := Lib.hid (show homeOf gr sz ni jr ino = .tuple #[.int .i64 0, .int .i64 0, .bool false] by
      unfold homeOf nInodes; rw [if_neg h, if_neg (by omega)])
    clear h
    go_enter Try.func13, Try.ntmps13
    go_wp2_with fail
    refine (rmay_no gr sz ni jr HM.out _).mono ?_
    rintro e w1 ⟨rfl, hg⟩
    have HG := Lib.hid hg
    clear hg
    go_wp2_with fail
    go_ret3
    exact ⟨by rw [HF.out]; rfl, (Grow.alloc _ _).trans HG.out⟩
theorem home_any (gr sz ni jr ino : Int) (w : World) :
    Calls Try.prog 12 #[gv gr sz ni jr, .int .i64 ino] w fun e w' => e = .returned (homeOf gr sz ni jr ino) ∧ Grow w w' := by
  unfold homeOf
  by_cases h : 1 ≤ ino ∧ ino ≤ nInodes gr sz ni jr
  · have hm : May gr sz ni jr := by
      apply Classical.byContradiction
      intro hn
      unfold nInodes at h
      rw [if_neg hn] at h
      omega
    rw [if_pos h]
    refine home_yes gr sz ni jr ino hm h.1 ?_ w
    have := h.2
    unfold nInodes at this
    rwa [if_pos hm] at this
  · rw [if_neg h]
    exact home_no gr sz ni jr ino (by omega) w
end Go.Proofs.Ytgakdaohhbdjoaa
