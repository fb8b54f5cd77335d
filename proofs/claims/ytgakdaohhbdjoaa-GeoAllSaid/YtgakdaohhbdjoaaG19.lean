/- The document's Blocks, Inodes, Data, Start, What: the walks. -/
import Derived.Test.YtgakdaohhbdjoaaG17
set_option linter.unusedVariables false
set_option linter.unusedSimpArgs false
namespace Go.Proofs.Ytgakdaohhbdjoaa
open Go.RowKit Go.Shelf

set_option maxHeartbeats 1000000 in
theorem rblocks_any (gr sz ni jr : Int) (w : World) :
    Calls Try.prog 23 #[gv gr sz ni jr] w fun e w' => e = .returned (.int .i64 (nBlocks gr sz ni jr)) ∧ Grow w w' := by
  by_cases h : May gr sz ni jr
  · have HE := Lib.hid (show nBlocks gr sz ni jr = 2 + jr + gr * sz from if_pos h)
    obtain ⟨gr, sz, ni, jr, rfl, rfl, rfl, rfl⟩ := may_nat h
    have HM := Lib.hid h
    have hsz : 2 + ni / 4 ≤ sz := by obtain ⟨_, _, _, _, _, _, _, _, _, m10, _⟩ := h; omega
    have hlen := allT_length gr sz ni jr hsz
    have HL := Lib.hid hlen
    clear h hlen
    go_enter Try.func23, Try.ntmps23
    go_wp2_with fail
    refine (rall_yes gr sz ni jr HM.out _).mono ?_
    rintro e w1 ⟨⟨v, rfl, hth⟩, hg⟩
    obtain ⟨g, cap, hv, _, hgl, hcl⟩ := hth.open_ (by rw [HL.out]; omega)
    rw [HL.out] at hv
    rw [hv]
    have HG := Lib.hid ((Grow.alloc _ _).trans hg)
    clear hcl hg hth hv
    go_wp2_with fail
    go_ret
    exact ⟨ret_int (by rw [HE.out]), HG.out⟩
  · have HM := Lib.hid h
    have HE := Lib.hid (show nBlocks gr sz ni jr = 0 from if_neg h)
    clear h
    go_enter Try.func23, Try.ntmps23
    go_wp2_with fail
    refine (rall_no gr sz ni jr HM.out _).mono ?_
    rintro e w1 ⟨rfl, hg⟩
    have HG := Lib.hid hg
    clear hg
    go_wp2_with fail
    go_ret
    exact ⟨ret_int HE.out.symm, (Grow.alloc _ _).trans HG.out⟩
set_option maxHeartbeats 1000000 in
theorem rinodes_any (gr sz ni jr : Int) (w : World) :
    Calls Try.prog 25 #[gv gr sz ni jr] w fun e w' => e = .returned (.int .i64 (nInodes gr sz ni jr)) ∧ Grow w w' := by
  by_cases h : May gr sz ni jr
  · have HM := Lib.hid h
    have HE := Lib.hid (show nInodes gr sz ni jr = gr * ni from if_pos h)
    obtain ⟨h1, h2, h3, h4, h5, h6, _⟩ := h
    have hb := mul_gi h1 h2 h5 h6
    go_enter Try.func25, Try.ntmps25
    go_wp2_with fail
    refine (rmay_yes gr sz ni jr HM.out _).mono ?_
    rintro e w1 ⟨rfl, hg⟩
    obtain ⟨c0, c1, c2, c3⟩ := box_at hg
    have HG := Lib.hid hg
    clear hg
    go_wp2_with fail
    go_ret
    exact ⟨ret_int HE.out.symm, (Grow.alloc _ _).trans HG.out⟩
  · have HM := Lib.hid h
    have HE := Lib.hid (show nInodes gr sz ni jr = 0 from if_neg h)
    clear h
    go_enter Try.func25, Try.ntmps25
    go_wp2_with fail
    refine (rmay_no gr sz ni jr HM.out _).mono ?_
    rintro e w1 ⟨rfl, hg⟩
    have HG := Lib.hid hg
    clear hg
    go_wp2_with fail
    go_ret
    exact ⟨ret_int HE.out.symm, (Grow.alloc _ _).trans HG.out⟩

/-- is it a data block of the first group? -/
def isD (t : Th) : Bool := t.kind == 7 && t.group == 0
def cntD (sz ni jr k : Nat) : Nat := (((List.range k).map (whatT sz ni jr)).filter isD).length
theorem cntD_succ (sz ni jr k : Nat) : cntD sz ni jr (k + 1) = cntD sz ni jr k + if isD (whatT sz ni jr k) then 1 else 0 := by
  unfold cntD
  rw [List.range_succ, List.map_append, List.filter_append, List.length_append]
  cases h : isD (whatT sz ni jr k) <;> simp [h]
theorem cntD_le (sz ni jr k : Nat) : cntD sz ni jr k ≤ k := by
  unfold cntD
  exact Nat.le_trans (List.length_filter_le _ _) (by simp)
theorem grp_D (sz ni g : Nat) : ((grp sz ni g).filter isD).length = if g = 0 then sz - 2 - ni / 4 else 0 := by
  unfold grp grp2
  rw [List.filter_append, List.filter_append, List.length_append, List.length_append]
  have h1 : (((List.range (ni / 4)).map (tth ni g)).filter isD).length = 0 := by
    rw [List.length_eq_zero_iff, List.filter_eq_nil_iff]
    intro a ha
    obtain ⟨i, _, rfl⟩ := List.mem_map.1 ha
    simp [isD, tth]
  have h0 : (([⟨4, g, 0, 0⟩, ⟨5, g, 1, 0⟩] : List Th).filter isD).length = 0 := by simp [isD]
  rw [h0, h1]
  by_cases hg : g = 0
  · have h2 : (((List.range (sz - 2 - ni / 4)).map (dth ni g)).filter isD) = ((List.range (sz - 2 - ni / 4)).map (dth ni g)) := by
      rw [List.filter_eq_self]
      intro a ha
      obtain ⟨i, _, rfl⟩ := List.mem_map.1 ha
      simp [isD, dth, hg]
    rw [h2, if_pos hg]
    simp
  · have h2 : (((List.range (sz - 2 - ni / 4)).map (dth ni g)).filter isD).length = 0 := by
      rw [List.length_eq_zero_iff, List.filter_eq_nil_iff]
      intro a ha
      obtain ⟨i, _, rfl⟩ := List.mem_map.1 ha
      simp [isD, dth, hg]
    rw [h2, if_neg hg]
theorem cntD_all (gr sz ni jr : Nat) (h : 2 + ni / 4 ≤ sz) (hg : 1 ≤ gr) : cntD sz ni jr (2 + jr + gr * sz) = sz - 2 - ni / 4 := by
  unfold cntD
  rw [← allT_eq gr sz ni jr h]
  unfold allT
  rw [List.filter_append, List.filter_append, List.length_append, List.length_append]
  have h1 : (head2.filter isD).length = 0 := by simp [head2, isD]
  have h2 : (((List.range jr).map jth).filter isD).length = 0 := by
    rw [List.length_eq_zero_iff, List.filter_eq_nil_iff]
    intro a ha
    obtain ⟨i, _, rfl⟩ := List.mem_map.1 ha
    simp [isD, jth]
  have h3 : ∀ n, (((List.range n).flatMap (grp sz ni)).filter isD).length = if n = 0 then 0 else sz - 2 - ni / 4 := by
    intro n
    induction n with
    | zero => rfl
    | succ n ih =>
      rw [List.range_succ, List.flatMap_append, List.filter_append, List.length_append, ih]
      simp only [List.flatMap_cons, List.flatMap_nil, List.append_nil]
      rw [grp_D]
      by_cases hn : n = 0
      · subst hn; simp
      · simp [hn]
  rw [h1, h2, h3, if_neg (by omega)]
  omega

set_option maxRecDepth 100000 in
set_option maxHeartbeats 2000000 in
theorem rdata_may (gr sz ni jr : Nat) (h : May gr sz ni jr) (w : World) :
    Calls Try.prog 27 #[gv gr sz ni jr] w fun e w' => e = .returned (.int .i64 (nData gr sz ni jr)) ∧ Grow w w' := by
  have HM := Lib.hid h
  have HE := Lib.hid (show nData gr sz ni jr = sz - 2 - ni / 4 from if_pos h)
  obtain ⟨g1, g2, g3, g4, g5, g6, g7, g8, g9, g10, g11⟩ := h
  have hsz : 2 + ni / 4 ≤ sz := by omega
  have hgr : 1 ≤ gr := by omega
  have HGET := Lib.hid (fun k hk => allT_get gr sz ni jr k hsz hk)
  have hlen := allT_length gr sz ni jr hsz
  have hall := cntD_all gr sz ni jr hsz hgr
  have HS := Lib.hid hsz
  have hN : 2 + jr + gr * sz ≤ 2048 := by
    have : ((gr * sz : Nat) : Int) = (gr : Int) * sz := by simp
    omega
  have hN2 : 2 ≤ 2 + jr + gr * sz := by omega
  generalize hNN : 2 + jr + gr * sz = N at *
  have HL := Lib.hid hlen
  have HA := Lib.hid hall
  clear hNN g1 g2 g3 g4 g5 g6 g7 g8 g9 g10 g11 hlen hall hsz hgr
  go_enter Try.func27, Try.ntmps27
  go_wp2_with fail
  refine (rall_yes gr sz ni jr HM.out _).mono ?_
  rintro e w1 ⟨⟨v, rfl, hth⟩, hg⟩
  obtain ⟨g, cap, hv, _, hgl, hcl⟩ := hth.open_ (by rw [HL.out]; omega)
  rw [HL.out] at hv
  rw [hv]
  have HCL := Lib.hid hcl
  have HG := Lib.hid ((Grow.alloc _ _).trans hg)
  clear hcl hg hth hv
  go_wp2_with fail
  go_loop [4, 5] (fun tn ti => ∃ k c : Nat, k ≤ N ∧ c ≤ k ∧ ti = .int .i64 (k : Int) ∧ tn = .int .i64 (c : Int) ∧ Hid (c = cntD sz ni jr k)) (fun _ ti => N - (intOf ti).toNat)
  case atStart => exact ⟨0, 0, by omega, by omega, rfl, rfl, Lib.hid rfl⟩
  case round =>
    obtain ⟨k, c, hk, hck, rfl, rfl, HC⟩ := hrel
    by_cases hlt : k < N
    · obtain ⟨c0, c1, _, _⟩ := HCL.out k _ (HGET.out k hlt)
      have hsu := cntD_succ sz ni jr k
      rw [← HC.out] at hsu
      generalize whatT sz ni jr k = t at *
      obtain ⟨tk, tg, tp, ti⟩ := t
      dsimp only at c0 c1
      unfold isD at hsu
      dsimp only at hsu
      by_cases h7 : tk = 7
      · have e7 : ((tk : Int) == 7) = true := by rw [h7]; rfl
        by_cases h0 : tg = 0
        · have e0 : ((tg : Int) == 0) = true := by rw [h0]; rfl
          have HSU := Lib.hid (show c + 1 = cntD sz ni jr (k + 1) by rw [hsu, h7, h0]; rfl)
          clear hsu h7 h0
          go_wp2_with fail
          go_round
          case rel => exact ⟨k + 1, c + 1, by omega, by omega, by go_num, by go_num, HSU⟩
          case measure => simp only [intOf]; omega
        · have e0 : ((tg : Int) == 0) = false := by rw [beq_eq_false_iff_ne]; omega
          have HSU := Lib.hid (show c = cntD sz ni jr (k + 1) by rw [hsu]; simp [h0])
          clear hsu h7 h0
          go_wp2_with fail
          go_round
          case rel => exact ⟨k + 1, c, by omega, by omega, by go_num, rfl, HSU⟩
          case measure => simp only [intOf]; omega
      · have e7 : ((tk : Int) == 7) = false := by rw [beq_eq_false_iff_ne]; omega
        have HSU := Lib.hid (show c = cntD sz ni jr (k + 1) by rw [hsu]; simp [h7])
        clear hsu h7
        go_wp2_with fail
        go_round
        case rel => exact ⟨k + 1, c, by omega, by omega, by go_num, rfl, HSU⟩
        case measure => simp only [intOf]; omega
    · obtain rfl : k = N := by omega
      go_wp2_with fail
      go_ret
      exact ⟨ret_int (by rw [HE.out, HC.out, HA.out]; have := HS.out; omega), HG.out⟩
set_option maxHeartbeats 1000000 in
theorem rdata_any (gr sz ni jr : Int) (w : World) :
    Calls Try.prog 27 #[gv gr sz ni jr] w fun e w' => e = .returned (.int .i64 (nData gr sz ni jr)) ∧ Grow w w' := by
  by_cases h : May gr sz ni jr
  · obtain ⟨a, b, c, d, rfl, rfl, rfl, rfl⟩ := may_nat h
    exact rdata_may a b c d h w
  · have HM := Lib.hid h
    have HE := Lib.hid (show nData gr sz ni jr = 0 from if_neg h)
    clear h
    go_enter Try.func27, Try.ntmps27
    go_wp2_with fail
    refine (rall_no gr sz ni jr HM.out _).mono ?_
    rintro e w1 ⟨rfl, hg⟩
    have HG := Lib.hid hg
    clear hg
    go_wp2_with fail
    go_loop [4, 5] (fun tn ti => tn = .int .i64 0 ∧ ti = .int .i64 0) (fun _ _ => 0)
    case atStart => exact ⟨rfl, rfl⟩
    case round =>
      obtain ⟨rfl, rfl⟩ := hrel
      go_wp2_with fail
      go_ret
      exact ⟨ret_int HE.out.symm, (Grow.alloc _ _).trans HG.out⟩

/-- is it the first block of that group? -/
def isS (k : Int) (t : Th) : Prop := t.kind = 4 ∧ (t.group : Int) = k
theorem isS_iff (gr sz ni jr idx : Nat) (k : Int) (h : 2 + ni / 4 ≤ sz) (hs : 16 ≤ sz) (hi : idx < 2 + jr + gr * sz) : isS k (whatT sz ni jr idx) ↔ 0 ≤ k ∧ k < gr ∧ (idx : Int) = 2 + jr + k * sz := by
  unfold isS whatT
  by_cases a1 : idx < 2
  · rw [if_pos a1]
    constructor
    · intro ⟨h1, _⟩; dsimp only at h1; omega
    · intro ⟨h1, h2, h3⟩
      have : 0 ≤ k * sz := Int.mul_nonneg h1 (by omega)
      omega
  rw [if_neg a1]
  by_cases a2 : idx < 2 + jr
  · rw [if_pos a2]
    constructor
    · intro ⟨h1, _⟩; dsimp only at h1; omega
    · intro ⟨h1, h2, h3⟩
      have : 0 ≤ k * sz := Int.mul_nonneg h1 (by omega)
      omega
  rw [if_neg a2]
  obtain ⟨x, rfl⟩ : ∃ x, idx = 2 + jr + x := ⟨idx - 2 - jr, by omega⟩
  rw [show 2 + jr + x - 2 - jr = x by omega]
  have hd := Nat.div_add_mod x sz
  have hm := Nat.mod_lt x (show 0 < sz by omega)
  have hgx : x / sz < gr := Nat.div_lt_of_lt_mul (by rw [Nat.mul_comm]; omega)
  have huniq : ∀ (k : Int), 0 ≤ k → (x : Int) = k * sz → k = ((x / sz : Nat) : Int) ∧ x % sz = 0 := by
    intro k hk e
    obtain ⟨n, rfl⟩ : ∃ n : Nat, k = n := ⟨k.toNat, by omega⟩
    have e2 : x = n * sz := by
      have : ((n * sz : Nat) : Int) = (n : Int) * sz := by simp
      omega
    rw [e2, Nat.mul_div_cancel _ (by omega), Nat.mul_mod_left]
    exact ⟨rfl, rfl⟩
  generalize hg : x / sz = g at *
  generalize hy : x % sz = y at *
  have e3 : ((sz * g : Nat) : Int) = (g : Int) * sz := by rw [Nat.mul_comm]; simp
  by_cases a3 : y < 2
  · rw [if_pos a3]
    dsimp only
    constructor
    · rintro ⟨h1, rfl⟩
      obtain rfl : y = 0 := by omega
      exact ⟨by omega, by omega, by omega⟩
    · intro ⟨h1, h2, h3⟩
      obtain ⟨h4, h5⟩ := huniq k h1 (by omega)
      exact ⟨by omega, h4.symm⟩
  rw [if_neg a3]
  have hno : ¬ (0 ≤ k ∧ k < (gr : Int) ∧ ((2 + jr + x : Nat) : Int) = 2 + (jr : Int) + k * sz) := fun ⟨h1, h2, h3⟩ => by
    have := (huniq k h1 (by omega)).2
    omega
  by_cases a4 : y < 2 + ni / 4
  · rw [if_pos a4]; exact ⟨fun ⟨h1, _⟩ => by simp at h1, fun h => absurd h hno⟩
  · rw [if_neg a4]; exact ⟨fun ⟨h1, _⟩ => by simp at h1, fun h => absurd h hno⟩
end Go.Proofs.Ytgakdaohhbdjoaa
