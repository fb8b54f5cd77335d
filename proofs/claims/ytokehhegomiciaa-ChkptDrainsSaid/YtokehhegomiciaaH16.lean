/- Same, Has, great, within, data: the laws' helpers. -/
import Derived.Test.YtokehhegomiciaaH15
set_option linter.unusedVariables false
set_option linter.unusedSimpArgs false
namespace Go.Proofs.Ytokehhegomiciaa
open Go.RowKit Go.Maps

theorem ISee.cell {w : World} {a : Option Addr} {n cap : Nat} {zs : List Int} (h : ISee w (.slice a n cap) zs) {k : Nat} (hk : k < zs.length) : ∃ g o z, a = some ⟨g, o, none⟩ ∧ zs[k]? = some z ∧ w.cell? ⟨g, o + k, none⟩ = some (.int .i64 z) := by
  obtain ⟨z, hz⟩ : ∃ z, zs[k]? = some z := ⟨zs[k], by simp⟩
  obtain ⟨g, o, ha, _, hc, _⟩ := h.at_ hz
  exact ⟨g, o, z, ha, hz, hc⟩
theorem has_ok {w : World} {v : Value} {zs : List Int} (h : ISee w v zs) (hl : zs.length ≤ 1000000) (b : Int) : Calls Try.prog 23 #[v, .int .i64 b] w fun e w' => e = .returned (.bool (decide (b ∈ zs))) ∧ w = w' := by
  have HR := Lib.hid h
  obtain ⟨a, ca, hv⟩ := ISee.len h
  obtain ⟨n, hn⟩ : ∃ n, n = zs.length := ⟨_, rfl⟩
  have HN := Lib.hid hn
  rw [← hn] at hv hl
  subst hv
  obtain ⟨r, hr⟩ : ∃ r, decide (b ∈ zs) = r := ⟨_, rfl⟩
  rw [hr]
  have HRr := Lib.hid hr
  clear h hn hr
  go_enter Try.func23, Try.ntmps23
  go_wp2_with fail
  go_loopw [5] (fun t5 wr => ∃ i : Nat, i ≤ n ∧ t5 = .int .i64 (i : Int) ∧ Hid (∀ z ∈ zs.take i, z ≠ b) ∧ wr = w) (fun t5 _ => n - (intOf t5).toNat)
  case atStart => exact ⟨0, by omega, rfl, Lib.hid (by simp), rfl⟩
  case round =>
    obtain ⟨i, hi, rfl, HF, rfl⟩ := hrel
    by_cases hlt : i < n
    · obtain ⟨ga, oa, z, rfl, hz, y0⟩ := HR.out.cell (k := i) (by rw [← HN.out]; exact hlt)
      have b0 : (0 : Int) ≤ (i : Int) := by omega
      have b1 : (i : Int) < (n : Int) := by omega
      have HZ := Lib.hid hz
      clear hz
      by_cases e : z = b
      · have d0 : (z == b) = true := by simpa using e
        have HM := Lib.hid (show r = true from HRr.out.symm.trans (decide_eq_true (e ▸ List.mem_of_getElem? HZ.out)))
        go_wp2_with fail
        go_ret
        simp [HM.out]
      · have d0 : (z == b) = false := by simpa using e
        have HF2 := Lib.hid (show ∀ z ∈ zs.take (i + 1), z ≠ b by
          rw [List.take_add_one, HZ.out]
          intro y hy
          rcases List.mem_append.1 hy with hy | hy
          · exact HF.out y hy
          · simp at hy; rw [hy]; exact e)
        go_wp2_with fail
        go_roundw
        case rel => exact ⟨i + 1, by omega, by go_num, HF2, trivial⟩
        case measure => simp [intOf]; omega
    · obtain rfl : i = n := by omega
      have HM := Lib.hid (show r = false from HRr.out.symm.trans (decide_eq_false (fun hm => HF.out b (by rw [HN.out, List.take_length]; exact hm) rfl)))
      go_wp2_with fail
      go_ret
      simp [HM.out]
/-- two rows of the same numbers -/
theorem same_ok {w : World} {va vb : Value} {zs : List Int} (ha : ISee w va zs) (hb : ISee w vb zs) (hl : zs.length ≤ 1000000) : Calls Try.prog 29 #[va, vb] w fun e w' => e = .returned (.bool true) ∧ Grow w w' := by
  obtain ⟨a, ca, rfl⟩ := ISee.len ha
  obtain ⟨b, cb, rfl⟩ := ISee.len hb
  obtain ⟨n, hn⟩ : ∃ n, n = zs.length := ⟨_, rfl⟩
  rw [← hn] at ha hb hl ⊢
  have HN := Lib.hid hn
  have HA := Lib.hid ha
  have HB := Lib.hid hb
  clear ha hb hn
  go_enter Try.func29, Try.ntmps29
  go_wp2_with fail
  go_loopw [5] (fun t5 wr => ∃ i : Nat, i ≤ n ∧ t5 = .int .i64 (i : Int) ∧ Hid (Grow w wr)) (fun t5 _ => n - (intOf t5).toNat)
  case atStart => exact ⟨0, by omega, rfl, Lib.hid (Grow.refl _)⟩
  case round =>
    obtain ⟨i, hi, rfl, HG⟩ := hrel
    by_cases hlt : i < n
    · obtain ⟨ga, oa, z, rfl, hz, y0⟩ := (HA.out.grow HG.out).cell (k := i) (by rw [← HN.out]; exact hlt)
      obtain ⟨gb, ob, z', rfl, hz', y1⟩ := (HB.out.grow HG.out).cell (k := i) (by rw [← HN.out]; exact hlt)
      rw [hz] at hz'
      cases hz'
      have b0 : (0 : Int) ≤ (i : Int) := by omega
      have b1 : (i : Int) < (n : Int) := by omega
      have d0 : (z != z) = false := by simp
      clear hz
      go_wp2_with fail
      go_quiet (fail)
      have HG2 := Lib.hid (show Grow w (wr.drewN nq) from HG.out.trans (grow_drewN wr nq))
      generalize wr.drewN nq = W2 at *
      go_wp2_with fail
      go_roundw
      case rel => exact ⟨i + 1, by omega, by go_num, HG2⟩
      case measure => simp [intOf]; omega
    · obtain rfl : i = n := by omega
      go_wp2_with fail
      go_ret
      exact ⟨rfl, HG.out⟩
#print axioms same_ok
end Go.Proofs.Ytokehhegomiciaa
