/- What the helpers of the law CrcSums compute: the walks. -/
import Derived.Test.YtcodhmfmdjopeaaDoorW6
import Derived.Test.YtcodhmfmdjopeaaDoorRef
set_option linter.unusedVariables false
set_option linter.unusedSimpArgs false
namespace Go.Proofs.YtcodhmfmdjopeaaDoor
open Go.RowKit
open CrcPlain (sh shn tm steps one step run)

/-- are pieces more than are gone through? -/
def greatFrom : Nat → List Piece → Bool
  | _, [] => false
  | left, p :: ps => if left < p.n then true else greatFrom (left - p.n) ps
def leftOf : List Piece → Nat → Nat
  | [], left => left
  | p :: ps, left => leftOf ps (left - p.n)
theorem great_drop (ps : List Piece) (k left : Nat) (h : k < ps.length) : greatFrom left (ps.drop k) = if left < (ps.getD k none_).n then true else greatFrom (left - (ps.getD k none_).n) (ps.drop (k + 1)) := by
  rw [List.drop_eq_getElem_cons h, greatFrom, List.getD_eq_getElem?_getD, List.getElem?_eq_getElem h]
  rfl
theorem great_small : ∀ (ps : List Piece) (left : Nat), greatFrom left ps = false → (ps.map Piece.n).sum ≤ left := by
  intro ps
  induction ps with
  | nil => intro left _; simp
  | cons p ps ih =>
    intro left h
    unfold greatFrom at h
    split at h
    · cases h
    · have := ih _ h
      simp only [List.map_cons, List.sum_cons]
      omega

set_option maxHeartbeats 1000000 in
theorem great_any (A : Option Addr) (n c : Nat) (ps : List Piece) (w : World) (hp : Pieces w A n ps) (hn : n ≤ 9223372036854775807) (hb : ∀ p ∈ ps, p.n ≤ 9223372036854775807) :
    Calls Tryd.prog 10 #[.slice A n c] w fun e w' => e = .returned (.bool (decide (100 < n) || greatFrom 20000 ps)) ∧ w = w' := by
  have HP := Lib.hid hp
  clear hp
  by_cases h100 : 100 < n
  · go_enter Tryd.func10, Tryd.ntmps10
    go_wp2_with fail
    go_ret
    exact ⟨by simp [h100], rfl⟩
  have HE := Lib.hid (show (decide (100 < n) || greatFrom 20000 ps) = greatFrom 20000 ps by simp [h100])
  rw [HE.out]
  go_enter Tryd.func10, Tryd.ntmps10
  go_wp2_with fail
  go_loop [3, 4] (fun tl ti => ∃ k left : Nat, k ≤ n ∧ left ≤ 20000 ∧ ti = .int .i64 (k : Int) ∧ tl = .int .i64 (left : Int) ∧ greatFrom 20000 ps = greatFrom left (ps.drop k)) (fun _ i => n - (intOf i).toNat)
  case atStart => exact ⟨0, 20000, by omega, by omega, rfl, rfl, rfl⟩
  case round =>
    obtain ⟨k, left, hk, hl, rfl, rfl, hg⟩ := hrel
    have HG := Lib.hid hg
    clear hg
    by_cases hlt : k < n
    · obtain ⟨ad, rfl, hc⟩ := HP.out.2.2 (by omega)
      have hcell := hc k hlt
      have hmem : ps.getD k none_ ∈ ps := by
        have hl : k < ps.length := by rw [HP.out.1]; exact hlt
        rw [List.getD_eq_getElem?_getD, List.getElem?_eq_getElem hl]; exact List.getElem_mem hl
      have hpn := hb _ hmem
      have HD := Lib.hid (great_drop ps k left (by rw [HP.out.1]; exact hlt))
      clear hc hmem
      generalize ps.getD k none_ = p at *
      obtain ⟨pA, pn, pc, bs⟩ := p
      unfold Piece.val at hcell
      dsimp only at hcell hpn HD
      by_cases hgt : left < pn
      · go_wp2_with fail
        go_ret
        exact ⟨by rw [HG.out, HD.out, if_pos hgt]; rfl, rfl⟩
      · go_wp2_with fail
        go_round
        case rel =>
          refine ⟨k + 1, left - pn, by omega, by omega, by go_num, ?_, ?_⟩
          · rw [show ((left - pn : Nat) : Int) = (left : Int) - (pn : Int) by omega]
          · rw [HG.out, HD.out, if_neg hgt]
        case measure => simp only [intOf]; omega
    · obtain rfl : k = n := by omega
      have HE := Lib.hid (show ps.drop k = [] from List.drop_of_length_le (by rw [HP.out.1]; omega))
      go_wp2_with fail
      go_ret
      exact ⟨by rw [HG.out, HE.out]; rfl, rfl⟩

set_option maxHeartbeats 1000000 in
theorem rsum_any (A : Option Addr) (n c : Nat) (bs : List Nat) (w : World) (hp : Bytes w A n bs) (hn : n ≤ 140737488351232) :
    Calls Tryd.prog 12 #[.slice A n c] w fun e w' => e = .returned (V (CrcPlain.sum bs)) ∧ w = w' := by
  have HP := Lib.hid hp
  clear hp
  go_enter Tryd.func12, Tryd.ntmps12
  go_wp2_with fail
  go_loop [3, 4] (fun tv ti => ∃ k : Nat, k ≤ n ∧ ti = .int .i64 (k : Int) ∧ tv = V (run (~~~ 0#32) (bs.take k))) (fun _ i => n - (intOf i).toNat)
  case atStart => exact ⟨0, by omega, rfl, rfl⟩
  case round =>
    obtain ⟨k, hk, rfl, rfl⟩ := hrel
    by_cases hlt : k < n
    · obtain ⟨hlen, hsm, hcs⟩ := HP.out
      obtain ⟨ad, rfl, hc⟩ := hcs (by omega)
      have hcell := hc k hlt
      have hx := CrcPlain.take_succ_getD bs k (by omega)
      have hxl : bs.getD k 0 < 256 := by
        have hl : k < bs.length := by rw [hlen]; exact hlt
        rw [List.getD_eq_getElem?_getD, List.getElem?_eq_getElem hl]; exact hsm _ (List.getElem_mem hl)
      have HS := Lib.hid hx
      clear hx hlen hsm hcs hc
      generalize bs.getD k 0 = x at *
      generalize hv : run (~~~ 0#32) (bs.take k) = v at *
      have HV := Lib.hid hv
      clear hv
      have e0 := b_xor v (BitVec.ofNat 32 x)
      rw [show ((BitVec.ofNat 32 x).toNat : Int) = (x : Int) by simp; omega] at e0
      generalize hu : v ^^^ BitVec.ofNat 32 x = u at *
      have HU := Lib.hid hu
      clear hu
      unfold V
      go_wp2_with fail
      go_loop [3, 5] (fun tv ti => ∃ j : Nat, j ≤ 8 ∧ ti = .int .i64 (j : Int) ∧ tv = V (shn j u)) (fun _ i => 8 - (intOf i).toNat)
      case atStart => exact ⟨0, by omega, rfl, rfl⟩
      case round =>
        obtain ⟨j, hj, rfl, rfl⟩ := hrel
        by_cases hjl : j < 8
        · generalize hr : shn j u = r at *
          have HR := Lib.hid hr
          clear hr
          unfold V
          go_wp2_with (go_at_call 17; refine (rshift_any _ _).mono ?_; rintro e w' ⟨rfl, rfl⟩)
          go_round
          case rel =>
            refine ⟨j + 1, by omega, by go_num, ?_⟩
            rw [← HR.out]; rfl
          case measure => simp only [intOf]; omega
        · obtain rfl : j = 8 := by omega
          unfold V
          go_wp2_with fail
          go_round
          case rel =>
            refine ⟨k + 1, by omega, by go_num, ?_⟩
            rw [HS.out, CrcPlain.run_append, HV.out]
            show _ = V (shn 8 (v ^^^ BitVec.ofNat 32 x))
            rw [HU.out]; rfl
          case measure => simp only [intOf]; omega
    · obtain rfl : k = n := by omega
      have HE := Lib.hid (show bs.take k = bs from List.take_of_length_le (by have := HP.out.1; omega))
      rw [HE.out]
      generalize hv : run (~~~ 0#32) bs = v at *
      have HV := Lib.hid hv
      have hlt32 := lt32 v
      clear hv
      unfold V
      go_wp2_with fail
      go_ret
      refine ⟨ret_int ?_, rfl⟩
      unfold CrcPlain.sum
      rw [HV.out, BitVec.toNat_not]
      omega
end Go.Proofs.YtcodhmfmdjopeaaDoor
