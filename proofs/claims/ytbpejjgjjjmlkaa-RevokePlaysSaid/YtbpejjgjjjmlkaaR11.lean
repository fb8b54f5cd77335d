/- The law's awake; rows of integers compared: the walks. -/
import Derived.Test.YtbpejjgjjjmlkaaR9
set_option linter.unusedVariables false
set_option linter.unusedSimpArgs false
namespace Go.Proofs.Ytbpejjgjjjmlkaa
open Go.RowKit Go.Maps

set_option maxRecDepth 100000 in
set_option maxHeartbeats 2000000 in
theorem same_ints {w : World} {va vb : Value} {zs : List Int} (ha : IRow w va zs) (hb : IRow w vb zs) (hl : zs.length ≤ 100000) : Calls Try.prog 18 #[va, vb] w fun e w' => e = .returned (.bool true) ∧ Grow w w' := by
  have HA := Lib.hid ha
  have HB := Lib.hid hb
  obtain ⟨aa, ca, hva⟩ := ha.len
  obtain ⟨ab, cb, hvb⟩ := hb.len
  rw [List.length_map] at hva hvb
  obtain ⟨n, hn⟩ : ∃ n, n = zs.length := ⟨_, rfl⟩
  rw [← hn] at hva hvb hl
  subst hva hvb
  have HN := Lib.hid hn
  clear ha hb hn
  go_enter Try.func18, Try.ntmps18
  go_wp2_with fail
  go_loopw [5] (fun t5 wr => ∃ (i : Nat), i ≤ n ∧ t5 = .int .i64 (i : Int) ∧ Hid (Touch [] w wr)) (fun t5 _ => n - (intOf t5).toNat)
  case atStart => exact ⟨0, by omega, rfl, Lib.hid (Touch.refl _ _)⟩
  case round =>
    obtain ⟨i, hi, rfl, HW⟩ := hrel
    by_cases hlt : i < n
    · have hiz : i < zs.length := by rw [← HN.out]; exact hlt
      obtain ⟨z, hz⟩ : ∃ z, zs[i]? = some z := ⟨zs[i], by simp [hiz]⟩
      obtain ⟨ga, ca', hv⟩ := HA.out.open_ (by omega)
      rw [← HN.out] at hv
      cases hv
      obtain ⟨gb, cb', hv⟩ := HB.out.open_ (by omega)
      rw [← HN.out] at hv
      cases hv
      have y0 := IRow.cell (Row.kept HA.out HW.out (by simp)) hz
      have y1 := IRow.cell (Row.kept HB.out HW.out (by simp)) hz
      have b0 : (0 : Int) ≤ (i : Int) := by omega
      have b1 : (i : Int) < (n : Int) := by omega
      clear hz hiz
      go_upto_region 6 with (fail)
      go_quiet (fail)
      go_wp2_with fail
      go_roundw
      case rel => exact ⟨i + 1, by omega, by go_num, Lib.hid (HW.out.trans (touch_drewN [] _ _) (by simp))⟩
      case measure => simp [intOf]; omega
    · obtain rfl : i = n := by omega
      go_wp2_with fail
      go_ret
      exact ⟨rfl, HW.out.below (Nat.le_refl _) (by simp)⟩
theorem irow_two (w : World) (x y : Int) : IRow (w.alloc (.cells #[.int .i64 x, .int .i64 y] 3)) (.slice (some ⟨w.heap.size, 0, none⟩) 2 2) [x, y] := by
  refine ⟨fun c hc => ?_, by simp [icell], .inr ⟨w.heap.size, 2, _, rfl, Nat.zero_le _, heap_alloc_last _ _, by simp, by unfold maxLen; omega, by simp, by simp [icell]⟩⟩
  obtain ⟨z, _, rfl⟩ := List.mem_map.1 hc
  rfl
theorem aw_of : sortI (ofR [(5, 3), (5, 7), (9, 7)] 7) = [5, 9] := by
  rw [show ofR [(5, 3), (5, 7), (9, 7)] 7 = [5, 9] by decide]
  exact sorted_unique _ _ (sortI_perm _) (sortI_sorted _) (by decide)
set_option maxRecDepth 100000 in
set_option maxHeartbeats 2000000 in
theorem awake_ok (w : World) : Calls Try.prog 23 #[] w fun e w' => e = .returned (.bool true) ∧ Grow w w' := by
  go_enter Try.func23, Try.ntmps23
  go_wp2_with fail
  refine (new_ok _).mono ?_
  intro e w1 hpost
  obtain ⟨B, bm, he, ht, hg, h1, h2⟩ := hpost
  subst he
  have HT := Lib.hid ht
  have HG := Lib.hid hg
  have HBM := Lib.hid h2
  clear ht hg h1 h2
  go_wp2_with fail
  refine (show Calls Try.prog 20 #[.pointer (some ⟨B, 0, none⟩), .int .i64 5, .int .u32 3] _ _ from add_ok HT.out (by omega) (5, 3) ⟨by decide, by decide, by decide⟩ (by decide)).mono ?_
  intro e w2 hpost
  obtain ⟨he, ht, hto⟩ := hpost
  subst he
  rw [show insR [] (5, 3) = [(5, 3)] by decide] at ht
  have HT2 := Lib.hid ht
  have HG2 := Lib.hid (show Grow w w2 from Below.trans HG.out (hto.below HG.out.size (by simpa using HBM.out)))
  clear ht hto HT HG
  go_wp2_with fail
  refine (show Calls Try.prog 20 #[.pointer (some ⟨B, 0, none⟩), .int .i64 5, .int .u32 7] _ _ from add_ok HT2.out (by omega) (5, 7) ⟨by decide, by decide, by decide⟩ (by decide)).mono ?_
  intro e w3 hpost
  obtain ⟨he, ht, hto⟩ := hpost
  subst he
  rw [show insR [(5, 3)] (5, 7) = [(5, 3), (5, 7)] by decide] at ht
  have HT3 := Lib.hid ht
  have HG3 := Lib.hid (show Grow w w3 from Below.trans HG2.out (hto.below HG2.out.size (by simpa using HBM.out)))
  clear ht hto HT2 HG2
  go_wp2_with fail
  refine (show Calls Try.prog 20 #[.pointer (some ⟨B, 0, none⟩), .int .i64 9, .int .u32 7] _ _ from add_ok HT3.out (by omega) (9, 7) ⟨by decide, by decide, by decide⟩ (by decide)).mono ?_
  intro e w4 hpost
  obtain ⟨he, ht, hto⟩ := hpost
  subst he
  rw [show insR [(5, 3), (5, 7)] (9, 7) = [(5, 3), (5, 7), (9, 7)] by decide] at ht
  have HT4 := Lib.hid ht
  have HG4 := Lib.hid (show Grow w w4 from Below.trans HG3.out (hto.below HG3.out.size (by simpa using HBM.out)))
  clear ht hto HT3 HG3
  go_wp2_with fail
  refine (show Calls Try.prog 11 #[.pointer (some ⟨B, 0, none⟩), .int .i64 5, .int .u32 7] _ _ from revoked_ok HT4.out 5 7 (by omega)).mono ?_
  intro e w5 hpost
  obtain ⟨he, hg⟩ := hpost
  rw [show revoked [(5, 3), (5, 7), (9, 7)] 5 7 = true by decide] at he
  subst he
  have HT5 := Lib.hid (HT4.out.kept (Touch.of_below (S := []) hg) (by simp) (by simp))
  have HG5 := Lib.hid (Grow.trans HG4.out hg)
  clear hg HT4 HG4
  go_wp2_with fail
  refine (show Calls Try.prog 11 #[.pointer (some ⟨B, 0, none⟩), .int .i64 5, .int .u32 4] _ _ from revoked_ok HT5.out 5 4 (by omega)).mono ?_
  intro e w6 hpost
  obtain ⟨he, hg⟩ := hpost
  rw [show revoked [(5, 3), (5, 7), (9, 7)] 5 4 = true by decide] at he
  subst he
  have HT6 := Lib.hid (HT5.out.kept (Touch.of_below (S := []) hg) (by simp) (by simp))
  have HG6 := Lib.hid (Grow.trans HG5.out hg)
  clear hg HT5 HG5
  go_wp2_with fail
  refine (show Calls Try.prog 11 #[.pointer (some ⟨B, 0, none⟩), .int .i64 5, .int .u32 8] _ _ from revoked_ok HT6.out 5 8 (by omega)).mono ?_
  intro e w7 hpost
  obtain ⟨he, hg⟩ := hpost
  rw [show revoked [(5, 3), (5, 7), (9, 7)] 5 8 = false by decide] at he
  subst he
  have HT7 := Lib.hid (HT6.out.kept (Touch.of_below (S := []) hg) (by simp) (by simp))
  have HG7 := Lib.hid (Grow.trans HG6.out hg)
  clear hg HT6 HG6
  go_wp2_with fail
  refine (show Calls Try.prog 13 #[.pointer (some ⟨B, 0, none⟩), .int .u32 7] _ _ from of_ok HT7.out (by decide) 7).mono ?_
  intro e w8 hpost
  obtain ⟨vo, he, hrow, hg, _⟩ := hpost
  rw [aw_of] at hrow
  obtain ⟨ao, co, hvo⟩ := hrow.len
  subst hvo
  subst he
  have HT8 := Lib.hid (HT7.out.kept (Touch.of_below (S := []) hg) (by simp) (by simp))
  have HG8 := Lib.hid (Grow.trans HG7.out hg)
  have HR8 := Lib.hid (Row.kept hrow (Touch.alloc [] w8 (.cells #[.int .i64 5, .int .i64 9] 3)) (by simp))
  have HL8 := Lib.hid (irow_two w8 5 9)
  clear hg hrow HT7 HG7
  go_wp2_with fail
  refine (same_ints HR8.out HL8.out (by decide)).mono ?_
  intro e w9 hpost
  obtain ⟨he, hg⟩ := hpost
  subst he
  have HT9 := Lib.hid (HT8.out.kept (Touch.of_below (S := []) (Grow.trans (Grow.alloc w8 (.cells #[.int .i64 5, .int .i64 9] 3)) hg)) (by simp) (by simp))
  have HG9 := Lib.hid (Grow.trans HG8.out (Grow.trans (Grow.alloc w8 (.cells #[.int .i64 5, .int .i64 9] 3)) hg))
  clear hg HT8 HG8 HR8 HL8
  go_wp2_with fail
  refine (len_ok HT9.out).mono ?_
  intro e w' hpost
  obtain ⟨he, hw⟩ := hpost
  subst he hw
  go_wp2_with fail
  refine (show Calls Try.prog 21 #[.pointer (some ⟨B, 0, none⟩), .int .i64 5, .int .u32 7] _ _ from cancel_ok HT9.out (5, 7) ⟨by decide, by decide, by decide⟩ (by decide)).mono ?_
  intro e wa hpost
  obtain ⟨he, ht, hto⟩ := hpost
  subst he
  rw [show delR [(5, 3), (5, 7), (9, 7)] (5, 7) = [(5, 3), (9, 7)] by decide] at ht
  have HTa := Lib.hid ht
  have HGa := Lib.hid (show Grow w wa from Below.trans HG9.out (hto.below HG9.out.size (by simpa using HBM.out)))
  clear ht hto HT9 HG9
  go_wp2_with fail
  refine (show Calls Try.prog 11 #[.pointer (some ⟨B, 0, none⟩), .int .i64 5, .int .u32 4] _ _ from revoked_ok HTa.out 5 4 (by omega)).mono ?_
  intro e wb hpost
  obtain ⟨he, hg⟩ := hpost
  rw [show revoked [(5, 3), (9, 7)] 5 4 = false by decide] at he
  subst he
  have HTb := Lib.hid (HTa.out.kept (Touch.of_below (S := []) hg) (by simp) (by simp))
  have HGb := Lib.hid (Grow.trans HGa.out hg)
  clear hg HTa HGa
  go_wp2_with fail
  refine (show Calls Try.prog 11 #[.pointer (some ⟨B, 0, none⟩), .int .i64 5, .int .u32 3] _ _ from revoked_ok HTb.out 5 3 (by omega)).mono ?_
  intro e wc hpost
  obtain ⟨he, hg⟩ := hpost
  rw [show revoked [(5, 3), (9, 7)] 5 3 = true by decide] at he
  subst he
  have HGc := Lib.hid (Grow.trans HGb.out hg)
  clear hg HTb HGb
  go_wp2_with fail
  go_ret
  exact ⟨rfl, HGc.out⟩
#print axioms awake_ok
end Go.Proofs.Ytbpejjgjjjmlkaa
