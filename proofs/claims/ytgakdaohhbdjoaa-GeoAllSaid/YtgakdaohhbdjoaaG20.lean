/- The document's Start and What: the walks. -/
import Derived.Test.YtgakdaohhbdjoaaG19
set_option linter.unusedVariables false
set_option linter.unusedSimpArgs false
namespace Go.Proofs.Ytgakdaohhbdjoaa
open Go.RowKit Go.Shelf

set_option maxRecDepth 100000 in
set_option maxHeartbeats 2000000 in
theorem rstart_may (gr sz ni jr : Nat) (kk : Int) (h : May gr sz ni jr) (w : World) :
    Calls Try.prog 17 #[gv gr sz ni jr, .int .i64 kk] w fun e w' => e = .returned (startOf gr sz ni jr kk) ∧ Grow w w' := by
  have HM := Lib.hid h
  obtain ⟨g1, g2, g3, g4, g5, g6, g7, g8, g9, g10, g11⟩ := h
  have hsz : 2 + ni / 4 ≤ sz := by omega
  have HGET := Lib.hid (fun k hk => allT_get gr sz ni jr k hsz hk)
  have HIFF := Lib.hid (fun k hk => isS_iff gr sz ni jr k kk hsz (by omega) hk)
  have hlen := allT_length gr sz ni jr hsz
  have hN : 2 + jr + gr * sz ≤ 2048 := by
    have : ((gr * sz : Nat) : Int) = (gr : Int) * sz := by simp
    omega
  have hN2 : 2 ≤ 2 + jr + gr * sz := by omega
  have HS := Lib.hid (show 0 ≤ kk → kk < gr → (2 + (jr : Int) + kk * sz).toNat < 2 + jr + gr * sz ∧ (((2 + (jr : Int) + kk * sz).toNat : Nat) : Int) = 2 + (jr : Int) + kk * sz by
    intro h1 h2
    obtain ⟨n, rfl⟩ : ∃ n : Nat, kk = n := ⟨kk.toNat, by omega⟩
    have e1 : (n : Int) * sz = ((n * sz : Nat) : Int) := by simp
    have e2 : (n + 1) * sz ≤ gr * sz := Nat.mul_le_mul_right _ (by omega)
    rw [Nat.add_mul, Nat.one_mul] at e2
    rw [e1]
    omega)
  generalize hNN : 2 + jr + gr * sz = N at *
  have HL := Lib.hid hlen
  clear hNN g1 g2 g3 g4 g5 g6 g7 g8 g9 g10 g11 hlen hsz
  go_enter Try.func17, Try.ntmps17
  go_wp2_with fail
  refine (rall_yes gr sz ni jr HM.out _).mono ?_
  rintro e w1 ⟨⟨v, rfl, hth⟩, hg⟩
  obtain ⟨g, cap, hv, _, hgl, hcl⟩ := hth.open_ (by rw [HL.out]; omega)
  rw [HL.out] at hv
  rw [hv]
  have HCL := Lib.hid hcl
  have HG := Lib.hid ((Grow.alloc _ _).trans hg)
  clear hcl hg hth hv
  go_wp2_with fail
  go_loop [7] (fun ti => ∃ k : Nat, k ≤ N ∧ ti = .int .i64 (k : Int) ∧ Hid (∀ j, j < k → ¬ isS kk (whatT sz ni jr j))) (fun ti => N - (intOf ti).toNat)
  case atStart => exact ⟨0, by omega, rfl, Lib.hid (by omega)⟩
  case round =>
    obtain ⟨k, hk, rfl, HNO⟩ := hrel
    by_cases hlt : k < N
    · obtain ⟨c0, c1, _, _⟩ := HCL.out k _ (HGET.out k hlt)
      have HIF := Lib.hid (HIFF.out k hlt)
      have HNX := Lib.hid (show ¬ isS kk (whatT sz ni jr k) → ∀ j, j < k + 1 → ¬ isS kk (whatT sz ni jr j) from fun hn j hj => by
        rcases Nat.lt_or_ge j k with h1 | h1
        · exact HNO.out j h1
        · have : j = k := by omega
          rw [this]; exact hn)
      generalize whatT sz ni jr k = t at *
      obtain ⟨tk, tg, tp, ti⟩ := t
      dsimp only at c0 c1
      by_cases h4 : tk = 4
      · have e4 : ((tk : Int) == 4) = true := by rw [h4]; rfl
        by_cases h0 : (tg : Int) = kk
        · have e0 : ((tg : Int) == kk) = true := by rw [h0]; simp
          have hans := HIF.out.1 ⟨h4, h0⟩
          have HF := Lib.hid (show startOf gr sz ni jr kk = .tuple #[.int .i64 (k : Int), .bool true] by
            unfold startOf; rw [if_pos ⟨HM.out, hans.1, hans.2.1⟩, hans.2.2])
          clear h4 h0 hans
          go_wp2_with fail
          go_ret2
          exact ⟨by rw [HF.out]; rfl, HG.out⟩
        · have e0 : ((tg : Int) == kk) = false := by rw [beq_eq_false_iff_ne]; exact h0
          have HN := Lib.hid (HNX.out (fun hc => h0 hc.2))
          clear h4 h0
          go_wp2_with fail
          go_round
          case rel => exact ⟨k + 1, by omega, by go_num, HN⟩
          case measure => simp only [intOf]; omega
      · have e4 : ((tk : Int) == 4) = false := by rw [beq_eq_false_iff_ne]; omega
        have HN := Lib.hid (HNX.out (fun hc => h4 hc.1))
        clear h4
        go_wp2_with fail
        go_round
        case rel => exact ⟨k + 1, by omega, by go_num, HN⟩
        case measure => simp only [intOf]; omega
    · have HF := Lib.hid (show startOf gr sz ni jr kk = .tuple #[.int .i64 0, .bool false] by
        unfold startOf
        rw [if_neg]
        intro ⟨_, a1, a2⟩
        obtain ⟨b1, b2⟩ := HS.out a1 a2
        exact HNO.out _ (by omega) ((HIFF.out _ b1).2 ⟨a1, a2, b2⟩))
      go_wp2_with fail
      go_ret2
      exact ⟨by rw [HF.out]; rfl, HG.out⟩
set_option maxHeartbeats 1000000 in
theorem rstart_any (gr sz ni jr kk : Int) (w : World) :
    Calls Try.prog 17 #[gv gr sz ni jr, .int .i64 kk] w fun e w' => e = .returned (startOf gr sz ni jr kk) ∧ Grow w w' := by
  by_cases h : May gr sz ni jr
  · obtain ⟨a, b, c, d, rfl, rfl, rfl, rfl⟩ := may_nat h
    exact rstart_may a b c d kk h w
  · have HM := Lib.hid h
    have HE := Lib.hid (show startOf gr sz ni jr kk = .tuple #[.int .i64 0, .bool false] from if_neg (fun c => h c.1))
    clear h
    go_enter Try.func17, Try.ntmps17
    go_wp2_with fail
    refine (rall_no gr sz ni jr HM.out _).mono ?_
    rintro e w1 ⟨rfl, hg⟩
    have HG := Lib.hid hg
    clear hg
    go_wp2_with fail
    go_loop [7] (fun ti => ti = .int .i64 0) (fun _ => 0)
    case atStart => rfl
    case round =>
      subst hrel
      go_wp2_with fail
      go_ret2
      exact ⟨by rw [HE.out]; rfl, (Grow.alloc _ _).trans HG.out⟩

set_option maxRecDepth 100000 in
set_option maxHeartbeats 2000000 in
theorem rwhat_any (gr sz ni jr bl : Int) (w : World) :
    Calls Try.prog 19 #[gv gr sz ni jr, .int .i64 bl] w fun e w' => e = .returned (whatOf gr sz ni jr bl) ∧ Grow w w' := by
  by_cases h : May gr sz ni jr
  · obtain ⟨gr, sz, ni, jr, rfl, rfl, rfl, rfl⟩ := may_nat h
    have HM := Lib.hid h
    obtain ⟨g1, g2, g3, g4, g5, g6, g7, g8, g9, g10, g11⟩ := h
    have hsz : 2 + ni / 4 ≤ sz := by omega
    have HGET := Lib.hid (fun k hk => allT_get gr sz ni jr k hsz hk)
    have hlen := allT_length gr sz ni jr hsz
    have hN : 2 + jr + gr * sz ≤ 2048 := by
      have : ((gr * sz : Nat) : Int) = (gr : Int) * sz := by simp
      omega
    have hN2 : 2 ≤ 2 + jr + gr * sz := by omega
    have HB := Lib.hid (show nBlocks gr sz ni jr = ((2 + jr + gr * sz : Nat) : Int) by unfold nBlocks; rw [if_pos HM.out]; simp)
    generalize hNN : 2 + jr + gr * sz = N at *
    have HL := Lib.hid hlen
    clear hNN g1 g2 g3 g4 g5 g6 g7 g8 g9 g10 g11 hlen hsz
    by_cases h0 : bl < 0
    · have HF := Lib.hid (show whatOf gr sz ni jr bl = zero3 from if_neg (fun c => by have := c.2.1; omega))
      go_enter Try.func19, Try.ntmps19
      go_wp2_with fail
      refine (rall_yes gr sz ni jr HM.out _).mono ?_
      rintro e w1 ⟨⟨v, rfl, hth⟩, hg⟩
      obtain ⟨g, cap, hv, _, hgl, hcl⟩ := hth.open_ (by rw [HL.out]; omega)
      rw [HL.out] at hv
      rw [hv]
      have HG := Lib.hid ((Grow.alloc _ _).trans hg)
      clear hcl hg hth hv
      go_wp2_with fail
      go_ret3
      exact ⟨by rw [HF.out]; rfl, HG.out⟩
    · obtain ⟨b, rfl⟩ : ∃ b : Nat, bl = b := ⟨bl.toNat, by omega⟩
      by_cases hlt : b < N
      · have HF := Lib.hid (show whatOf gr sz ni jr (b : Int) = thV (whatT sz ni jr b) by
          unfold whatOf; rw [if_pos ⟨HM.out, by omega, by rw [HB.out]; omega⟩]; simp)
        go_enter Try.func19, Try.ntmps19
        go_wp2_with fail
        refine (rall_yes gr sz ni jr HM.out _).mono ?_
        rintro e w1 ⟨⟨v, rfl, hth⟩, hg⟩
        obtain ⟨g, cap, hv, _, hgl, hcl⟩ := hth.open_ (by rw [HL.out]; omega)
        rw [HL.out] at hv
        rw [hv]
        obtain ⟨c0, c1, c2, _⟩ := hcl b _ (HGET.out b hlt)
        have HG := Lib.hid ((Grow.alloc _ _).trans hg)
        clear hcl hg hth hv
        generalize whatT sz ni jr b = t at *
        obtain ⟨tk, tg, tp, ti⟩ := t
        dsimp only at c0 c1 c2
        have b0 : (0 : Int) ≤ (b : Int) := by omega
        have b1 : (b : Int) < (N : Int) := by omega
        go_wp2_with fail
        go_quiet (fail)
        go_wp2_with fail
        go_ret3
        exact ⟨by rw [HF.out]; rfl, HG.out.trans (Grow.drewN _ _)⟩
      · have HF := Lib.hid (show whatOf gr sz ni jr (b : Int) = zero3 from if_neg (fun c => by have := c.2.2; rw [HB.out] at this; omega))
        go_enter Try.func19, Try.ntmps19
        go_wp2_with fail
        refine (rall_yes gr sz ni jr HM.out _).mono ?_
        rintro e w1 ⟨⟨v, rfl, hth⟩, hg⟩
        obtain ⟨g, cap, hv, _, hgl, hcl⟩ := hth.open_ (by rw [HL.out]; omega)
        rw [HL.out] at hv
        rw [hv]
        have HG := Lib.hid ((Grow.alloc _ _).trans hg)
        clear hcl hg hth hv
        go_wp2_with fail
        go_ret3
        exact ⟨by rw [HF.out]; rfl, HG.out⟩
  · have HM := Lib.hid h
    have HE := Lib.hid (show whatOf gr sz ni jr bl = zero3 from if_neg (fun c => h c.1))
    clear h
    by_cases h0 : bl < 0
    all_goals
      go_enter Try.func19, Try.ntmps19
      go_wp2_with fail
      refine (rall_no gr sz ni jr HM.out _).mono ?_
      rintro e w1 ⟨rfl, hg⟩
      have HG := Lib.hid hg
      clear hg
      go_wp2_with fail
      go_ret3
      exact ⟨by rw [HE.out]; rfl, (Grow.alloc _ _).trans HG.out⟩
theorem start_form (gr sz ni jr k : Int) : ∃ x b, startOf gr sz ni jr k = .tuple #[.int .i64 x, .bool b] := by
  unfold startOf; split <;> exact ⟨_, _, rfl⟩
theorem what_form (gr sz ni jr k : Int) : ∃ x y z, whatOf gr sz ni jr k = .tuple #[.int .u8 x, .int .i64 y, .int .i64 z] := by
  unfold whatOf; split <;> exact ⟨_, _, _, rfl⟩
end Go.Proofs.Ytgakdaohhbdjoaa
