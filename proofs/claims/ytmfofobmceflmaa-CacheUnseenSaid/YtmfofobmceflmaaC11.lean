/- The laws' has, rises, evicted; rows of integers compared: the walks. -/
import Derived.Test.YtmfofobmceflmaaC10
set_option linter.unusedVariables false
set_option linter.unusedSimpArgs false
namespace Go.Proofs.Ytmfofobmceflmaa
open Go.RowKit Go.Maps

set_option maxRecDepth 100000 in
set_option maxHeartbeats 2000000 in
theorem same_ints {w : World} {va vb : Value} {zs : List Int} (ha : IRow w va zs) (hb : IRow w vb zs) (hl : zs.length ≤ 100000) : Calls Try.prog 17 #[va, vb] w fun e w' => e = .returned (.bool true) ∧ Grow w w' := by
  have HA := Lib.hid ha
  have HB := Lib.hid hb
  obtain ⟨aa, ca, hva⟩ := ha.len
  obtain ⟨ab, cb, hvb⟩ := hb.len
  obtain ⟨n, hn⟩ : ∃ n, n = zs.length := ⟨_, rfl⟩
  rw [← hn] at hva hvb hl
  subst hva hvb
  have HN := Lib.hid hn
  clear ha hb hn
  go_enter Try.func17, Try.ntmps17
  go_wp2_with fail
  go_loopw [5] (fun t5 wr => ∃ (i : Nat), i ≤ n ∧ t5 = .int .i64 (i : Int) ∧ Hid (Touch [] w wr)) (fun t5 _ => n - (intOf t5).toNat)
  case atStart => exact ⟨0, by omega, rfl, Lib.hid (Touch.refl _ _)⟩
  case round =>
    obtain ⟨i, hi, rfl, HW⟩ := hrel
    by_cases hlt : i < n
    · have hiz : i < zs.length := by rw [← HN.out]; exact hlt
      obtain ⟨z, hz⟩ : ∃ z, zs[i]? = some z := ⟨zs[i], by simp [hiz]⟩
      obtain ⟨ga, ca', hv⟩ := HA.out.open_ (by omega)
      rw [← HN.out] at hv
      cases hv
      obtain ⟨gb, cb', hv⟩ := HB.out.open_ (by omega)
      rw [← HN.out] at hv
      cases hv
      have y0 := IRow.cell (Row.kept HA.out HW.out (by simp)) hz
      have y1 := IRow.cell (Row.kept HB.out HW.out (by simp)) hz
      have b0 : (0 : Int) ≤ (i : Int) := by omega
      have b1 : (i : Int) < (n : Int) := by omega
      clear hz hiz
      go_upto_region 6 with (fail)
      go_quiet (fail)
      go_wp2_with fail
      go_roundw
      case rel => exact ⟨i + 1, by omega, by go_num, Lib.hid (HW.out.trans (touch_drewN [] _ _) (by simp))⟩
      case measure => simp [intOf]; omega
    · obtain rfl : i = n := by omega
      go_wp2_with fail
      go_ret
      exact ⟨rfl, HW.out.below (Nat.le_refl _) (by simp)⟩
set_option maxRecDepth 100000 in
set_option maxHeartbeats 2000000 in
theorem has_ok {w : World} {v : Value} {zs : List Int} (h : IRow w v zs) (hl : zs.length ≤ 100000) (b : Int) : Calls Try.prog 14 #[v, .int .i64 b] w fun e w' => e = .returned (.bool (decide (b ∈ zs))) ∧ Grow w w' := by
  have HA := Lib.hid h
  obtain ⟨aa, ca, rfl⟩ := h.len
  obtain ⟨n, hn⟩ : ∃ n, n = zs.length := ⟨_, rfl⟩
  rw [← hn] at hl HA ⊢
  have HN := Lib.hid hn
  clear h hn
  go_enter Try.func14, Try.ntmps14
  go_wp2_with fail
  go_loopw [5] (fun t5 wr => ∃ (i : Nat), i ≤ n ∧ t5 = .int .i64 (i : Int) ∧ Hid (Grow w wr) ∧ Hid (b ∉ zs.take i)) (fun t5 _ => n - (intOf t5).toNat)
  case atStart => exact ⟨0, by omega, rfl, Lib.hid (Grow.refl _), Lib.hid (by simp)⟩
  case round =>
    obtain ⟨i, hi, rfl, HW, HNo⟩ := hrel
    by_cases hlt : i < n
    · have hiz : i < zs.length := by rw [← HN.out]; exact hlt
      obtain ⟨z, hz⟩ : ∃ z, zs[i]? = some z := ⟨zs[i], by simp [hiz]⟩
      obtain ⟨ga, ca', hv⟩ := HA.out.open_ (by omega)
      rw [← HN.out] at hv
      cases hv
      have y0 := IRow.cell (HA.out.grow HW.out) hz
      have b0 : (0 : Int) ≤ (i : Int) := by omega
      have b1 : (i : Int) < (n : Int) := by omega
      by_cases hzb : z = b
      · have HM := Lib.hid (show b ∈ zs by rw [← hzb]; exact List.mem_of_getElem? hz)
        have e0 : (z == b) = true := by simpa using hzb
        clear hz hiz hzb
        go_wp2_with fail
        go_ret
        exact ⟨by rw [decide_eq_true HM.out]; rfl, HW.out⟩
      · have HN2 := Lib.hid (show b ∉ zs.take (i + 1) by
          rw [List.take_succ_eq_append_getElem hiz, List.mem_append]
          rintro (h | h)
          · exact HNo.out h
          · rw [List.mem_singleton, (List.getElem?_eq_some_iff.1 hz).2] at h; exact hzb h.symm)
        have e0 : (z == b) = false := by simpa using hzb
        clear hz hiz hzb
        go_wp2_with fail
        go_roundw
        case rel => exact ⟨i + 1, by omega, by go_num, HW, HN2⟩
        case measure => simp [intOf]; omega
    · obtain rfl : n = i := by omega
      have HN2 := Lib.hid (show b ∉ zs by have := HNo.out; rw [HN.out, List.take_length] at this; exact this)
      go_wp2_with fail
      go_ret
      exact ⟨by rw [decide_eq_false HN2.out]; rfl, HW.out⟩
#print axioms has_ok
theorem strict_at {zs : List Int} (h : zs.Pairwise (· < ·)) {q : Nat} {y z : Int} (hy : zs[q]? = some y) (hz : zs[q + 1]? = some z) : y < z := by
  have h1 := (List.getElem?_eq_some_iff.1 hy).1
  have h2 := (List.getElem?_eq_some_iff.1 hz).1
  have := List.pairwise_iff_getElem.1 h q (q + 1) h1 h2 (by omega)
  rw [(List.getElem?_eq_some_iff.1 hy).2, (List.getElem?_eq_some_iff.1 hz).2] at this
  exact this
set_option maxRecDepth 100000 in
set_option maxHeartbeats 2000000 in
theorem rises_ok {w : World} {v : Value} {zs : List Int} {N : Nat} (h : IRow w v zs) (hl : zs.length ≤ 100000) (hN : N ≤ 100000) (hin : ∀ z ∈ zs, 0 ≤ z ∧ z < N) (hs : zs.Pairwise (· < ·)) : Calls Try.prog 12 #[v, .int .i64 (N : Int)] w fun e w' => e = .returned (.bool true) ∧ Grow w w' := by
  have HA := Lib.hid h
  have HIn := Lib.hid hin
  have HS := Lib.hid hs
  obtain ⟨aa, ca, rfl⟩ := h.len
  obtain ⟨n, hn⟩ : ∃ n, n = zs.length := ⟨_, rfl⟩
  rw [← hn] at hl HA ⊢
  have HN := Lib.hid hn
  clear h hn hin hs
  go_enter Try.func12, Try.ntmps12
  go_wp2_with fail
  go_loopw [5] (fun t5 wr => ∃ (i : Nat), i ≤ n ∧ t5 = .int .i64 (i : Int) ∧ Hid (Grow w wr)) (fun t5 _ => n - (intOf t5).toNat)
  case atStart => exact ⟨0, by omega, rfl, Lib.hid (Grow.refl _)⟩
  case round =>
    obtain ⟨i, hi, rfl, HW⟩ := hrel
    by_cases hlt : i < n
    · have hiz : i < zs.length := by rw [← HN.out]; exact hlt
      obtain ⟨z, hz⟩ : ∃ z, zs[i]? = some z := ⟨zs[i], by simp [hiz]⟩
      obtain ⟨ga, ca', hv⟩ := HA.out.open_ (by omega)
      rw [← HN.out] at hv
      cases hv
      have y0 := IRow.cell (HA.out.grow HW.out) hz
      have hzi := HIn.out z (List.mem_of_getElem? hz)
      have b0 : (0 : Int) ≤ (i : Int) := by omega
      have b1 : (i : Int) < (n : Int) := by omega
      have e0 : decide (z < 0) = false := by simp; omega
      have e1 : decide ((N : Int) ≤ z) = false := by simp; omega
      by_cases hi0 : i = 0
      · subst hi0
        clear hz hiz hzi
        go_upto_region 4 with (fail)
        go_quiet (fail)
        go_wp2_with fail
        go_roundw
        case rel => exact ⟨1, by omega, by go_num, Lib.hid (HW.out.trans (grow_drewN _ _))⟩
        case measure => simp [intOf]; omega
      · obtain ⟨q, rfl⟩ : ∃ q, i = q + 1 := ⟨i - 1, by omega⟩
        obtain ⟨y, hy⟩ : ∃ y, zs[q]? = some y := ⟨zs[q]'(by omega), by simp⟩
        have y1 := IRow.cell (HA.out.grow HW.out) hy
        have hyz := strict_at HS.out hy hz
        have ec : decide (z ≤ y) = false := by simp; omega
        have q0 : (0 : Int) ≤ (q : Int) := by omega
        have q1 : (q : Int) < (n : Int) := by omega
        have eq : ((q + 1 : Nat) : Int) - 1 = (q : Int) := by omega
        have eg : decide ((0 : Int) < ((q + 1 : Nat) : Int)) = true := decide_eq_true (by omega)
        clear hz hiz hzi hy hyz hi0
        go_upto_region 4 with (fail)
        go_quiet (fail)
        go_wp2_with fail
        go_roundw
        case rel => exact ⟨q + 1 + 1, by omega, by go_num, Lib.hid (HW.out.trans (grow_drewN _ _))⟩
        case measure => simp [intOf]; omega
    · obtain rfl : n = i := by omega
      go_wp2_with fail
      go_ret
      exact ⟨rfl, HW.out⟩
#print axioms rises_ok
end Go.Proofs.Ytmfofobmceflmaa
