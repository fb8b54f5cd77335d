/- commit.argued: the walk. -/
import Derived.Test.YtieknecbheeekaaDoorP5
import Derived.Test.YtieknecbheeekaaDoorGeo
set_option linter.unusedVariables false
set_option linter.unusedSimpArgs false
namespace Go.Proofs.YtieknecbheeekaaDoor
open Go.RowKit Go.Maps Go.Shelf
attribute [local go_sem] Oper.semAt_some
theorem ISee.cell2 {w : World} {a : Option Addr} {n cap : Nat} {zs : List Int} (h : ISee w (.slice a n cap) zs) {k : Nat} (hk : k < zs.length) : ∃ g o z, a = some ⟨g, o, none⟩ ∧ zs[k]? = some z ∧ w.cell? ⟨g, o + k, none⟩ = some (.int .i64 z) := by
  obtain ⟨z, hz⟩ : ∃ z, zs[k]? = some z := ⟨zs[k], by simp⟩
  obtain ⟨g, o, ha, _, hc, _⟩ := h.at_ hz
  exact ⟨g, o, z, ha, hz, hc⟩
theorem what_k {gr sz ni jr : Int} (hM : Geo.May gr sz ni jr) (b : Int) : ∃ (k : Nat) (p q : Int), k < 256 ∧ (0 ≤ b ∧ b < 2 + jr + gr * sz → 1 ≤ k) ∧ ∀ w, Calls Tryd.prog 22 #[.agg #[.int .i64 gr, .int .i64 sz, .int .i64 ni, .int .i64 jr], .int .i64 b] w fun e w' => e = .returned (.tuple #[.int .u8 (k : Int), .int .i64 p, .int .i64 q]) ∧ Grow w w' := by
  have hw := fun w => Geo.what_any gr sz ni jr b w
  have hM0 := hM
  obtain ⟨h1, h2, h3, h4, h5, h6, h7, h8, h9, h10, h11⟩ := hM
  have hN : Geo.nBlocks gr sz ni jr = 2 + jr + gr * sz := by unfold Geo.nBlocks; rw [if_pos hM0]
  unfold Geo.whatOf at hw
  rw [hN] at hw
  by_cases hc : 0 ≤ b ∧ b < 2 + jr + gr * sz
  · simp only [if_pos (show Geo.May gr sz ni jr ∧ 0 ≤ b ∧ b < 2 + jr + gr * sz from ⟨hM0, hc⟩)] at hw
    obtain ⟨t, ht⟩ : ∃ t, Geo.whatT sz.toNat ni.toNat jr.toNat b.toNat = t := ⟨_, rfl⟩
    rw [ht] at hw
    have hk : 1 ≤ t.kind ∧ t.kind < 256 := by
      rw [← ht]
      unfold Geo.whatT
      generalize (b.toNat - 2 - jr.toNat) % sz.toNat = md
      generalize (b.toNat - 2 - jr.toNat) / sz.toNat = dv
      split
      · simp only; omega
      · split
        · simp only; omega
        · split
          · simp only; omega
          · split <;> (simp only; omega)
    exact ⟨t.kind, (t.group : Int), (t.pos : Int), hk.2, fun _ => hk.1, hw⟩
  · simp only [if_neg (show ¬ (Geo.May gr sz ni jr ∧ 0 ≤ b ∧ b < 2 + jr + gr * sz) from fun h => hc h.2)] at hw
    exact ⟨0, 0, 0, by omega, fun h => absurd h hc, hw⟩
def ArgPost (gr sz jr : Int) (os ps : List Int) (W : World) (e : Ending) (w' : World) : Prop := ∃ b : Bool, e = .returned (.bool b) ∧ Grow W w' ∧ (b = true → ∀ p ∈ ps, 1 ≤ p ∧ p ≤ jr - 1) ∧ ((∀ z ∈ os, 0 ≤ z ∧ z < 2 + jr + gr * sz) → (∀ p ∈ ps, 1 ≤ p ∧ p ≤ jr - 1) → b = true)
set_option maxRecDepth 100000 in
set_option maxHeartbeats 4000000 in
theorem argued_ok {W : World} {gr sz ni jr : Int} (hM : Geo.May gr sz ni jr) {vo vp : Value} {os ps : List Int} (ho : ISee W vo os) (hp : ISee W vp ps) (hol : os.length ≤ 1000) (hpl : ps.length ≤ 1000) :
    Calls Tryd.prog 11 #[.agg #[.int .i64 gr, .int .i64 sz, .int .i64 ni, .int .i64 jr], vo, vp] W (ArgPost gr sz jr os ps W) := by
  have HM := Lib.hid hM
  have HO := Lib.hid ho
  have HP := Lib.hid hp
  obtain ⟨ao, co, hvo⟩ := ho.len
  obtain ⟨ap, cp, hvp⟩ := hp.len
  obtain ⟨no, hno⟩ : ∃ no, no = os.length := ⟨_, rfl⟩
  obtain ⟨np, hnp⟩ : ∃ np, np = ps.length := ⟨_, rfl⟩
  rw [← hno] at hvo hol
  rw [← hnp] at hvp hpl
  subst hvo hvp
  have HNO := Lib.hid hno
  have HNP := Lib.hid hnp
  have HJR := Lib.hid (show 40 ≤ jr ∧ jr ≤ 256 by obtain ⟨h1, h2, h3, h4, h5, h6, h7, h8, h9, h10, h11⟩ := hM; exact ⟨h8, h9⟩)
  clear hM ho hp hno hnp
  go_enter Tryd.func11, Tryd.ntmps11
  go_upto_region 1 with fail
  obtain ⟨B, hB⟩ : ∃ B, B = W.heap.size := ⟨_, rfl⟩
  have HB1 := Lib.hid (show (W.alloc (.cells #[.int .i64 gr, .int .i64 sz, .int .i64 ni, .int .i64 jr] 23)).heap[B]? = some (.cells #[.int .i64 gr, .int .i64 sz, .int .i64 ni, .int .i64 jr] 23) by rw [hB]; exact World.alloc_heap_new W _)
  have HG1 := Lib.hid (show Grow W (W.alloc (.cells #[.int .i64 gr, .int .i64 sz, .int .i64 ni, .int .i64 jr] 23)) from Grow.alloc _ _)
  rw [← hB]
  generalize W.alloc (.cells #[.int .i64 gr, .int .i64 sz, .int .i64 ni, .int .i64 jr] 23) = w1 at *
  clear hB
  go_wp2_with fail
  go_loopw [16] (fun t16 wr => ∃ i : Nat, i ≤ no ∧ t16 = .int .i64 (i : Int) ∧ Hid (Grow w1 wr)) (fun t16 _ => no - (intOf t16).toNat)
  case atStart => exact ⟨0, by omega, rfl, Lib.hid (Grow.refl _)⟩
  case round =>
    obtain ⟨i, hi, rfl, HG⟩ := hrel
    by_cases hlt : i < no
    · obtain ⟨ga, oa, z, rfl, hz, y0⟩ := (HO.out.grow (HG1.out.trans HG.out)).cell2 (k := i) (by rw [← HNO.out]; exact hlt)
      have b0 : (0 : Int) ≤ (i : Int) := by omega
      have b1 : (i : Int) < (no : Int) := by omega
      have hbx := (HG.out.block B (Array.getElem?_eq_some_iff.1 HB1.out).1).trans HB1.out
      have c0 := cell_at hbx 0
      have c1 := cell_at hbx 1
      have c2 := cell_at hbx 2
      have c3 := cell_at hbx 3
      have HZ := Lib.hid hz
      obtain ⟨k, p, q, hk, hk1, hw⟩ := what_k HM.out z
      have HK := Lib.hid hk1
      have HW := Lib.hid hw
      clear hz hbx hk1 hw
      go_wp2_with fail
      refine (HW.out _).mono ?_
      rintro e w2 ⟨rfl, hg2⟩
      have HG2 := Lib.hid (HG.out.trans hg2)
      clear hg2 c0 c1 c2 c3 y0
      by_cases hk0 : k = 0
      · subst hk0
        go_wp2_with fail
        go_ret
        exact ⟨false, rfl, HG1.out.trans HG2.out, (fun h => by cases h), fun h _ => absurd (HK.out (h z (List.mem_of_getElem? HZ.out))) (by omega)⟩
      · have d0 : ((k : Int) == 0) = false := by simpa using hk0
        go_wp2_with fail
        go_roundw
        case rel => exact ⟨i + 1, by omega, by go_num, HG2⟩
        case measure => simp [intOf]; omega
    · obtain rfl : i = no := by omega
      go_wp2_with fail
      have HG1 := Lib.hid (HG1.out.trans HG.out)
      have HBX := Lib.hid ((HG.out.block B (Array.getElem?_eq_some_iff.1 HB1.out).1).trans HB1.out)
      obtain ⟨wz, hwz⟩ : ∃ wz, wz = wr := ⟨_, rfl⟩
      rw [← hwz]
      rw [← hwz] at HG1 HBX
      clear HG hwz HB1
      go_loopw [32] (fun t32 wr => ∃ j : Nat, j ≤ np ∧ t32 = .int .i64 (j : Int) ∧ Hid (∀ p ∈ ps.take j, 1 ≤ p ∧ p ≤ jr - 1) ∧ wr = wz) (fun t32 _ => np - (intOf t32).toNat)
      case atStart => exact ⟨0, by omega, rfl, Lib.hid (by simp), rfl⟩
      case round =>
        obtain ⟨j, hj, rfl, HF, rfl⟩ := hrel
        by_cases hlt2 : j < np
        · obtain ⟨ga, oa, z, rfl, hz, y0⟩ := (HP.out.grow HG1.out).cell2 (k := j) (by rw [← HNP.out]; exact hlt2)
          have b0 : (0 : Int) ≤ (j : Int) := by omega
          have b1 : (j : Int) < (np : Int) := by omega
          have c3 := cell_at HBX.out 3
          have HZ := Lib.hid hz
          have j1 := HJR.out.1
          have j2 := HJR.out.2
          clear hz
          by_cases hz1 : z < 1
          · go_wp2_with fail
            go_ret
            exact ⟨false, rfl, HG1.out, (fun h => by cases h), fun _ h => absurd (h z (List.mem_of_getElem? HZ.out)).1 (by omega)⟩
          · by_cases hz2 : z > jr - 1
            · go_wp2_with fail
              go_ret
              exact ⟨false, rfl, HG1.out, (fun h => by cases h), fun _ h => absurd (h z (List.mem_of_getElem? HZ.out)).2 (by omega)⟩
            · have HF2 := Lib.hid (show ∀ y ∈ ps.take (j + 1), 1 ≤ y ∧ y ≤ jr - 1 by
                rw [List.take_add_one, HZ.out]
                intro y hy
                rcases List.mem_append.1 hy with hy | hy
                · exact HF.out y hy
                · simp at hy; rw [hy]; omega)
              go_wp2_with fail
              go_roundw
              case rel => exact ⟨j + 1, by omega, by go_num, HF2, trivial⟩
              case measure => simp [intOf]; omega
        · obtain rfl : j = np := by omega
          go_wp2_with fail
          go_ret
          exact ⟨true, rfl, HG1.out, fun _ p hp => HF.out p (by rw [HNP.out, List.take_length]; exact hp), fun _ _ => rfl⟩
#print axioms argued_ok
end Go.Proofs.YtieknecbheeekaaDoor
