/- cache: made, ask, Disk, pins, Pin, Drop, New: the walks. -/
import Derived.Test.YtmfofobmceflmaaC1
import Derived.Laws.Cover3
set_option linter.unusedVariables false
set_option linter.unusedSimpArgs false
namespace Go.Proofs.Ytmfofobmceflmaa
open Go.RowKit Go.Maps

theorem CParts.cells {w : World} {C bm bp B : Nat} {S : List Nat} {n : Nat} {s : CS} (h : CParts w C bm bp B S n s) : w.cell? ⟨C, 0, none⟩ = some (.pointer (some ⟨B, 0, none⟩)) ∧ w.cell? ⟨C, 1, none⟩ = some (.map (some bm)) ∧ w.cell? ⟨C, 2, none⟩ = some (.map (some bp)) :=
  ⟨cell_at h.obj 0, cell_at h.obj 1, cell_at h.obj 2⟩
theorem cmade_yes {w : World} {C B : Nat} {U : List Nat} {n : Nat} {s : CS} (h : IsCache w C B U n s) : Calls Try.prog 32 #[.pointer (some ⟨C, 0, none⟩)] w fun e w' => e = .returned (.bool true) ∧ w = w' := by
  obtain ⟨bm, bp, S, rfl, h⟩ := h
  obtain ⟨c0, _⟩ := h.cells
  clear h
  go_enter Try.func32, Try.ntmps32
  go_wp2
  go_ret
  exact ⟨rfl, rfl⟩
theorem cmade_nil (w : World) : Calls Try.prog 32 #[.pointer none] w fun e w' => e = .returned (.bool false) ∧ w = w' := by
  go_enter Try.func32, Try.ntmps32
  go_wp2
  go_ret
  exact ⟨rfl, rfl⟩
theorem cmade_empty {w : World} {C : Nat} (h : w.cell? ⟨C, 0, none⟩ = some (.pointer none)) : Calls Try.prog 32 #[.pointer (some ⟨C, 0, none⟩)] w fun e w' => e = .returned (.bool false) ∧ w = w' := by
  go_enter Try.func32, Try.ntmps32
  go_wp2
  go_ret
  exact ⟨rfl, rfl⟩
theorem cdisk_yes {w : World} {C B : Nat} {U : List Nat} {n : Nat} {s : CS} (h : IsCache w C B U n s) : Calls Try.prog 23 #[.pointer (some ⟨C, 0, none⟩)] w fun e w' => e = .returned (.pointer (some ⟨B, 0, none⟩)) ∧ w = w' := by
  have HC := Lib.hid h
  obtain ⟨bm, bp, S, rfl, h⟩ := h
  obtain ⟨c0, _⟩ := h.cells
  clear h
  go_enter Try.func23, Try.ntmps23
  go_wp2_with fail
  refine (cmade_yes HC.out).mono ?_
  rintro e w' ⟨rfl, rfl⟩
  go_wp2_with fail
  go_ret
  exact ⟨rfl, rfl⟩
/-- the first error of a call about a block -/
def CS.askI (s : CS) (b : Int) : Int := if 0 ≤ b ∧ b < s.d.safe.length then 0 else 2
set_option maxHeartbeats 1000000 in
theorem cask_any {w : World} {C B : Nat} {U : List Nat} {n : Nat} {s : CS} (h : IsCache w C B U n s) (b : Int) : Calls Try.prog 37 #[.pointer (some ⟨C, 0, none⟩), .int .i64 b] w fun e w' => e = .returned (.int .i64 (s.askI b)) ∧ w = w' := by
  have HC := Lib.hid h
  obtain ⟨bm, bp, S, rfl, h⟩ := h
  obtain ⟨c0, _⟩ := h.cells
  have HBk := Lib.hid (blocks_any h.disk)
  have hm := h.disk.one.2.1
  have HW := Lib.hid (show s.askI b = if 0 ≤ b ∧ b < s.d.safe.length then 0 else 2 from rfl)
  clear h
  by_cases h0 : b < 0
  · rw [if_neg (by omega)] at HW
    go_enter Try.func37, Try.ntmps37
    go_wp2_with fail
    refine (cmade_yes HC.out).mono ?_
    rintro e w' ⟨rfl, rfl⟩
    go_wp2_with fail
    go_ret
    exact ⟨ret_int HW.out.symm, rfl⟩
  · have d0 : decide (b < 0) = false := by simpa using h0
    by_cases h1 : b < s.d.safe.length
    · rw [if_pos (by omega)] at HW
      generalize s.d.safe.length = N at *
      have d1 : decide ((N : Int) ≤ b) = false := by simpa using h1
      go_enter Try.func37, Try.ntmps37
      go_wp2_with fail
      refine (cmade_yes HC.out).mono ?_
      rintro e w' ⟨rfl, rfl⟩
      go_wp2_with fail
      refine HBk.out.mono ?_
      rintro e w' ⟨rfl, rfl⟩
      go_wp2_with fail
      go_ret
      exact ⟨ret_int HW.out.symm, rfl⟩
    · rw [if_neg (by omega)] at HW
      generalize s.d.safe.length = N at *
      have d1 : decide ((N : Int) ≤ b) = true := by simp; omega
      go_enter Try.func37, Try.ntmps37
      go_wp2_with fail
      refine (cmade_yes HC.out).mono ?_
      rintro e w' ⟨rfl, rfl⟩
      go_wp2_with fail
      refine HBk.out.mono ?_
      rintro e w' ⟨rfl, rfl⟩
      go_wp2_with fail
      go_ret
      exact ⟨ret_int HW.out.symm, rfl⟩
theorem zeroU (w : World) : (zeroValue 82).run Try.prog w = .ok (.agg #[]) w := by kernel_rfl
set_option maxHeartbeats 1000000 in
theorem cpins_any {w : World} {C B : Nat} {U : List Nat} {n : Nat} {s : CS} (h : IsCache w C B U n s) (b : Int) (hb : IntOk b) : Calls Try.prog 34 #[.pointer (some ⟨C, 0, none⟩), .int .i64 b] w fun e w' => e = .returned (.bool (s.p b)) ∧ Grow w w' := by
  obtain ⟨bm, bp, S, rfl, h⟩ := h
  obtain ⟨_, _, c2⟩ := h.cells
  obtain ⟨D, hown, hp⟩ := h.pin
  have HO := Lib.hid hown
  have HP := Lib.hid (hp b)
  have HK := Lib.hid (keyOf_ik hb)
  have hz := zeroU
  clear h hown hp
  go_enter Try.func34, Try.ntmps34
  go_wp2_with (first | (at_lookup; refine wpList_lookup_own_unit _ rfl _ _ 56 rfl 3 82 keyInt Try.underlying56 (zeroU _) bp n D rfl HO.out _ _ rfl HK.out ?_))
  go_ret
  refine ⟨by rw [HP.out]; rfl, ?_⟩
  first | exact Grow.alloc _ _ | exact below_setRow ((Below.refl _ _).alloc (Nat.le_refl _) _) (Nat.le_refl _) _
set_option maxHeartbeats 1000000 in
theorem cpin_on {w : World} {C B : Nat} {U : List Nat} {n : Nat} {s : CS} (h : IsCache w C B U n s) (hn : n ≤ 1000000) (b : Int) (hb : s.askI b = 0) (hok : IntOk b) : Calls Try.prog 19 #[.pointer (some ⟨C, 0, none⟩), .int .i64 b, .bool true] w fun e w' => (∃ v, e = .returned v) ∧ IsCache w' C B U (n + 1) { s with p := putP s.p b } ∧ Touch U w w' := by
  have HC := Lib.hid h
  obtain ⟨bm, bp, S, rfl, h⟩ := h
  obtain ⟨_, _, c2⟩ := h.cells
  obtain ⟨D, hown, hp⟩ := h.pin
  have HO := Lib.hid hown
  have HP := Lib.hid hp
  have HA := Lib.hid hb
  have HCP := Lib.hid h
  have HK := Lib.hid (keyOf_ik hok)
  clear h hown hp hb
  go_enter Try.func19, Try.ntmps19
  go_wp2_with fail
  refine (cask_any HC.out b).mono ?_
  rintro e w' ⟨rfl, rfl⟩
  rw [HA.out]
  go_wp2_with (first | (at_mapUpdate; refine wpList_mapUpdate_in _ rfl _ _ _ 56 rfl 3 82 keyInt Try.underlying56 _ bp n D rfl HO.out (by unfold maxLen; omega) _ _ (ik b) rfl rfl HK.out _ [] unitElem_mk ?_; intro w1 hown1 hturn1))
  have HF := Lib.hid (show IsCache w1 C B (C :: bm :: bp :: S) (n + 1) { s with p := putP s.p b } ∧ Touch (C :: bm :: bp :: S) w w1 from ⟨⟨bm, bp, S, rfl, HCP.out.pinned (Nat.le_succ _) hturn1.grown hown1 (HP.out.put HO.out.isMap b _)⟩, Touch.grown hturn1.grown (fun k e => by cases e; simp)⟩)
  clear hown1 hturn1
  go_end0
  exact ⟨⟨_, rfl⟩, HF.out⟩
set_option maxHeartbeats 1000000 in
theorem cpin_off {w : World} {C B : Nat} {U : List Nat} {n : Nat} {s : CS} (h : IsCache w C B U n s) (b : Int) (hb : s.askI b = 0) (hok : IntOk b) : Calls Try.prog 19 #[.pointer (some ⟨C, 0, none⟩), .int .i64 b, .bool false] w fun e w' => (∃ v, e = .returned v) ∧ IsCache w' C B U n { s with p := delP s.p b } ∧ Touch U w w' := by
  have HC := Lib.hid h
  obtain ⟨bm, bp, S, rfl, h⟩ := h
  obtain ⟨_, _, c2⟩ := h.cells
  obtain ⟨D, hown, hp⟩ := h.pin
  have HO := Lib.hid hown
  have HP := Lib.hid hp
  have HA := Lib.hid hb
  have HCP := Lib.hid h
  have HK := Lib.hid (keyOf_ik hok)
  clear h hown hp hb
  go_enter Try.func19, Try.ntmps19
  go_wp2_with fail
  refine (cask_any HC.out b).mono ?_
  rintro e w' ⟨rfl, rfl⟩
  rw [HA.out]
  go_wp2_with (first | (at_delete; refine wpList_delete_own _ rfl _ _ 56 3 rfl 82 keyInt Try.underlying56 _ bp n D rfl HO.out _ (ik b) rfl HK.out ?_; intro w1 hown1 hturn1))
  have HF := Lib.hid (show IsCache w1 C B (C :: bm :: bp :: S) n { s with p := delP s.p b } ∧ Touch (C :: bm :: bp :: S) w w1 from ⟨⟨bm, bp, S, rfl, HCP.out.pinned (Nat.le_refl _) hturn1.grown hown1 (HP.out.del b)⟩, Touch.grown hturn1.grown (fun k e => by cases e; simp)⟩)
  clear hown1 hturn1
  go_end0
  exact ⟨⟨_, rfl⟩, HF.out⟩
theorem cpin_no {w : World} {C B : Nat} {U : List Nat} {n : Nat} {s : CS} (h : IsCache w C B U n s) (b : Int) (on : Bool) (hb : s.askI b = 2) : Calls Try.prog 19 #[.pointer (some ⟨C, 0, none⟩), .int .i64 b, .bool on] w fun e w' => (∃ v, e = .returned v) ∧ w = w' := by
  have HC := Lib.hid h
  have HA := Lib.hid hb
  clear h hb
  go_enter Try.func19, Try.ntmps19
  go_wp2_with fail
  refine (cask_any HC.out b).mono ?_
  rintro e w' ⟨rfl, rfl⟩
  rw [HA.out]
  go_wp2_with fail
  refine bodyPost_ret (results_none rfl _ _ _) rfl ?_
  exact ⟨⟨_, rfl⟩, rfl⟩
set_option maxHeartbeats 1000000 in
theorem cdrop_ok {w : World} {C B : Nat} {U : List Nat} {n : Nat} {s : CS} (h : IsCache w C B U n s) (b : Int) (hb : s.askI b = 0) (hok : IntOk b) (hp : s.p b = false) : Calls Try.prog 20 #[.pointer (some ⟨C, 0, none⟩), .int .i64 b] w fun e w' => e = .returned (.int .i64 0) ∧ IsCache w' C B U n { s with f := delF s.f b } ∧ Touch U w w' := by
  have HC := Lib.hid h
  have HA := Lib.hid hb
  have HPN := Lib.hid (cpins_any h b hok)
  rw [hp] at HPN
  have HK := Lib.hid (keyOf_ik hok)
  clear hb hp h
  go_enter Try.func20, Try.ntmps20
  go_wp2_with fail
  refine (cask_any HC.out b).mono ?_
  rintro e w' ⟨rfl, rfl⟩
  rw [HA.out]
  go_wp2_with fail
  refine HPN.out.mono ?_
  intro e w2 hpost
  obtain ⟨he, hg⟩ := hpost
  subst he
  have HC2 := Lib.hid (HC.out.grow hg)
  have HG := Lib.hid hg
  obtain ⟨bm, bp, S, rfl, h⟩ := HC2.out
  obtain ⟨_, c1, _⟩ := h.cells
  obtain ⟨D, hown, hm⟩ := h.has
  have HO := Lib.hid hown
  have HM := Lib.hid hm
  have HCP := Lib.hid h
  clear hg h hown hm
  go_wp2_with (first | (at_delete; refine wpList_delete_own _ rfl _ _ 55 3 rfl 77 keyInt Try.underlying55 _ bm n D rfl HO.out _ (ik b) rfl HK.out ?_; intro w1 hown1 hturn1))
  have HF := Lib.hid (show IsCache w1 C B (C :: bm :: bp :: S) n { s with f := delF s.f b } ∧ Touch (C :: bm :: bp :: S) w w1 from ⟨⟨bm, bp, S, rfl, HCP.out.turned (Nat.le_refl _) hturn1.grown hown1 (HM.out.del b)⟩, (Touch.of_below HG.out).trans (Touch.grown (S := C :: bm :: bp :: S) hturn1.grown (fun k e => by cases e; simp)) (fun i hi => .inl hi)⟩)
  clear hown1 hturn1
  go_wp2_with fail
  go_ret
  exact ⟨rfl, HF.out⟩
theorem cdrop_pinned {w : World} {C B : Nat} {U : List Nat} {n : Nat} {s : CS} (h : IsCache w C B U n s) (b : Int) (hb : s.askI b = 0) (hok : IntOk b) (hp : s.p b = true) : Calls Try.prog 20 #[.pointer (some ⟨C, 0, none⟩), .int .i64 b] w fun e w' => e = .returned (.int .i64 110) ∧ Grow w w' := by
  have HC := Lib.hid h
  have HA := Lib.hid hb
  have HPN := Lib.hid (cpins_any h b hok)
  rw [hp] at HPN
  clear hb hp h
  go_enter Try.func20, Try.ntmps20
  go_wp2_with fail
  refine (cask_any HC.out b).mono ?_
  rintro e w' ⟨rfl, rfl⟩
  rw [HA.out]
  go_wp2_with fail
  refine HPN.out.mono ?_
  intro e w2 hpost
  obtain ⟨he, hg⟩ := hpost
  subst he
  have HG := Lib.hid hg
  clear hg
  go_wp2_with fail
  go_ret
  exact ⟨rfl, HG.out⟩
def newC (d : DS) : CS := { d := d, f := fun _ => none, p := fun _ => false }
set_option maxHeartbeats 1000000 in
theorem cnew_ok {w : World} {B : Nat} {S : List Nat} {d : DS} (h : IsDisk w B S d) : Calls Try.prog 21 #[.pointer (some ⟨B, 0, none⟩)] w fun e w' => ∃ C U, e = .returned (.tuple #[.pointer (some ⟨C, 0, none⟩), .int .i64 0]) ∧ IsCache w' C B U 0 (newC d) ∧ Grow w w' ∧ ∀ k ∈ U, k ∈ S ∨ w.heap.size ≤ k := by
  have HD := Lib.hid h
  have HBk := Lib.hid (blocks_any h)
  have h1 := h.one
  have HLT := Lib.hid h.lt
  obtain ⟨N, hN⟩ : ∃ N, N = d.safe.length := ⟨_, rfl⟩
  rw [← hN] at HBk h1
  have e0 : ((N : Int) == 0) = false := by simp; omega
  have hmm := @run_makeMap Try.prog
  clear h hN
  go_enter Try.func21, Try.ntmps21
  go_wp2_with fail
  refine HBk.out.mono ?_
  rintro e w' ⟨rfl, rfl⟩
  go_wp2_with fail
  go_ret2
  refine ⟨w.heap.size + 2, (w.heap.size + 2) :: w.heap.size :: (w.heap.size + 1) :: S, rfl, ⟨w.heap.size, w.heap.size + 1, S, rfl, ?_⟩, Grow.trans (Grow.alloc w _) (Grow.trans (Grow.alloc _ _) (Grow.alloc _ _)), ?_⟩
  · constructor
    · have := heap_alloc_last ((w.alloc (.map #[] 0)).alloc (.map #[] 0)) (.cells #[.pointer (some ⟨B, 0, none⟩), .map (some w.heap.size), .map (some (w.heap.size + 1))] 58)
      simpa using this
    · exact HD.out.kept (((Touch.alloc [] w _).trans (Touch.alloc [] _ _) (by simp)).trans (Touch.alloc [] _ _) (by simp)) (by simp)
    · exact ⟨.map [], ((World.ownsMap_made w _ _ _).alloc _).alloc _, HMap.empty _⟩
    · refine ⟨.map [], ?_, fun i => rfl⟩
      have := (World.ownsMap_made (H := Unit) (w.alloc (.map #[] 0)) Try.prog 3 unitElem).alloc (.cells #[.pointer (some ⟨B, 0, none⟩), .map (some w.heap.size), .map (some (w.heap.size + 1))] 58)
      simpa using this
    · intro hm; have := HLT.out _ hm; omega
    · intro hm; have := HLT.out _ hm; omega
    · intro hm; have := HLT.out _ hm; omega
    · omega
  · intro k hk
    simp only [List.mem_cons] at hk
    rcases hk with rfl | rfl | rfl | hk
    · exact .inr (by omega)
    · exact .inr (by omega)
    · exact .inr (by omega)
    · exact .inl hk
#print axioms cnew_ok
end Go.Proofs.Ytmfofobmceflmaa
