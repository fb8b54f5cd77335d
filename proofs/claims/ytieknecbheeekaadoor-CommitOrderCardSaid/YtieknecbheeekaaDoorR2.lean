/- pack.rows: the iterators of copies and of numbers. -/
import Derived.Test.YtieknecbheeekaaDoorR1
set_option linter.unusedVariables false
set_option linter.unusedSimpArgs false
namespace Go.Proofs.YtieknecbheeekaaDoor
open Go.RowKit Go.Maps Go.Shelf

def doneR (per n j : Nat) : Nat := min (per * j) n
def rowsN (per n : Nat) : Nat := (n + per - 1) / per
def rowV (g o sz per n j : Nat) : Value := .slice (some ⟨g, o + doneR per n j * sz, none⟩) (min per (n - doneR per n j)) (min per (n - doneR per n j))
def lenAt (w : World) (B : Nat) : Nat := match w.cell? ⟨B, 0, none⟩ with | some (.slice _ l _) => l | _ => 0
theorem lenAt_of {w : World} {B n c : Nat} {a : Option Addr} {t : TypeId} (h : w.heap[B]? = some (.cells #[.slice a n c] t)) : lenAt w B = n := by
  unfold lenAt; rw [show w.cell? ⟨B, 0, none⟩ = some (.slice a n c) from cell_at h 0]
theorem doneR_zero (per n : Nat) : doneR per n 0 = 0 := by unfold doneR; simp
theorem doneR_succ {per n j r m : Nat} (hr : r = n - doneR per n j) (hm : m = min per r) : doneR per n (j + 1) = doneR per n j + m := by
  unfold doneR at *
  rw [Nat.mul_add, Nat.mul_one]
  generalize per * j = q at *
  omega
theorem rowsN_lt {per n j : Nat} (hp : 0 < per) (h : doneR per n j < n) : j < rowsN per n := by
  unfold doneR at h
  unfold rowsN
  rw [Nat.lt_div_iff_mul_lt hp, Nat.mul_comm]
  generalize per * j = q at *
  omega
theorem rowsN_eq {per n j : Nat} (hp : 0 < per) (hj : j ≤ rowsN per n) (h : 0 = n - doneR per n j) : j = rowsN per n := by
  unfold doneR at h
  unfold rowsN at *
  refine Nat.le_antisymm hj ?_
  rw [Nat.div_le_iff_le_mul_add_pred hp, Nat.mul_comm]
  rw [Nat.mul_comm] at h
  generalize j * per = q at *
  omega

set_option maxRecDepth 100000 in
set_option maxHeartbeats 2000000 in
theorem rowsC_in (n0 : Nat) (hn : 1 ≤ n0) (g o n c Bl Bn : Nat) (a : Option Addr) (ha : 0 < n → a = some ⟨g, o, none⟩) (hnc : n ≤ c) (hc : c ≤ maxLen) (hne : Bl ≠ Bn) (w0 : World)
    (hl : w0.heap[Bl]? = some (.cells #[.slice a n c] 25)) (hb : w0.heap[Bn]? = some (.cells #[.int .i64 30] 3)) :
    Counted Fence.wide n0 Tryd.prog 44 #[.pointer (some ⟨Bl, 0, none⟩), .pointer (some ⟨Bn, 0, none⟩)] (fun k => #[rowV g o 257 30 n k]) (rowsN 30 n) [Bl, Bn] w0 := by
  intro l J Jx W hW hJ hY h0
  have HJ := Lib.hid hJ
  have HY := Lib.hid hY
  have H0 := Lib.hid h0
  have HNE := Lib.hid hne
  have HL := Lib.hid ((hW.block Bl (Array.getElem?_eq_some_iff.1 hl).1 (by simp)).trans hl)
  have HB := Lib.hid ((hW.block Bn (Array.getElem?_eq_some_iff.1 hb).1 (by simp)).trans hb)
  have HA := Lib.hid ha
  have HNC := Lib.hid hnc
  have HC := Lib.hid hc
  clear hJ hY h0 hl hb hW hne ha hnc hc
  have hro : Fence.wide.round = none := rfl
  refine callsIn_of_wp Tryd.func44 rfl trivial ?_ hro
  simp only [Tryd.ntmps44, List.size_toArray, List.length_cons, List.length_nil, Nat.reduceAdd, Nat.reduceSub, Array.replicate_succ, Array.replicate_zero, List.push_toArray, List.append_toArray, List.nil_append, List.cons_append]
  gi_wp2
  gi_loopw [4] (fun _ wr => ∃ (j : Nat) (a' : Option Addr) (c' : Nat), j ≤ rowsN 30 n ∧ Hid (wr.heap[Bl]? = some (.cells #[.slice a' (n - doneR 30 n j) c'] 25)) ∧ Hid (doneR 30 n j < n → a' = some ⟨g, o + doneR 30 n j * 257, none⟩) ∧ Hid (n - doneR 30 n j ≤ c' ∧ c' ≤ maxLen) ∧ Hid (wr.heap[Bn]? = some (.cells #[.int .i64 30] 3)) ∧ Hid (J j wr)) (fun _ wr => lenAt wr Bl)
  case atStart => exact ⟨0, a, c, Nat.zero_le _, by rw [doneR_zero, Nat.sub_zero]; exact HL, Lib.hid (by rw [doneR_zero, Nat.zero_mul, Nat.add_zero]; exact HA.out), Lib.hid (by rw [doneR_zero, Nat.sub_zero]; exact ⟨HNC.out, HC.out⟩), HB, H0⟩
  case round =>
    obtain ⟨j, a', c', hj, HL', HA', HC', HB', HJ'⟩ := hrel
    clear HL HB H0
    obtain ⟨r, hr⟩ : ∃ r, r = n - doneR 30 n j := ⟨_, rfl⟩
    rw [← hr] at HL' HC'
    have HR := Lib.hid hr
    have c1 : wr.cell? ⟨Bl, 0, none⟩ = some (.slice a' r c') := cell_at HL'.out 0
    have c2 : wr.cell? ⟨Bn, 0, none⟩ = some (.int .i64 30) := cell_at HB'.out 0
    by_cases h : 0 < r
    · have hlt : doneR 30 n j < n := by omega
      have hjm : j < rowsN 30 n := rowsN_lt (by omega) hlt
      by_cases hpr : 30 ≤ r
      · have hm : 30 = min 30 r := by omega
        have hm1 : 30 ≤ r := by omega
        have hm2 : ((30 : Nat) : Int) ≤ (c' : Int) := by have := HC'.out; omega
        have hm3 : ((30 : Nat) : Int) ≤ (r : Int) := by omega
        have HM := Lib.hid hm
        have hae := HA'.out hlt
        subst hae
        have HRV := Lib.hid (show rowV g o 257 30 n j = .slice (some ⟨g, o + doneR 30 n j * 257, none⟩) 30 30 by unfold rowV; rw [← HR.out, ← HM.out])
        obtain ⟨fn, tmps, assign, body, hy, hRd⟩ := HY.out j wr hjm HJ'.out
        rw [HRV.out] at hy
        have HRd := Lib.hid hRd
        have b0 : (0 : Int) < (r : Int) := by omega
        clear hr hm hRd hlt
        gi_wp2
        refine HRd.out.mono ?_
        rintro e W3 ⟨hkeep, (⟨rfl, hJ3⟩ | ⟨rfl, hJx3⟩)⟩
        · have HL3 := Lib.hid ((hkeep Bl (by simp)).trans HL'.out)
          have HB3 := Lib.hid ((hkeep Bn (by simp)).trans HB'.out)
          have HJ3 := Lib.hid hJ3
          clear c1 c2 hkeep hJ3 hy
          have c1 : W3.cell? ⟨Bl, 0, none⟩ = some (.slice (some ⟨g, o + doneR 30 n j * 257, none⟩) r c') := cell_at HL3.out 0
          have f1 : W3.frozen? ⟨Bl, 0, none⟩ = false := frozen_at HL3.out 0
          have HD := Lib.hid (show doneR 30 n (j + 1) = doneR 30 n j + 30 from doneR_succ HR.out HM.out)
          have hcc := HC'.out
          have HLr := Lib.hid (lenAt_of HL'.out)
          by_cases hmc : c' = 30
          · have hr0 : r = 30 := by omega
            have HD0 := Lib.hid (show n - doneR 30 n (j + 1) = 0 by have := HD.out; have := HR.out; omega)
            have HL4 := Lib.hid (heap_set HL3.out 0 (.slice (some ⟨g, o + doneR 30 n j * 257, none⟩) 0 0))
            clear hcc
            subst hmc
            subst hr0
            gi_wp2
            go_roundw
            case rel =>
              refine ⟨j + 1, some ⟨g, o + doneR 30 n j * 257, none⟩, 0, by omega, ?_, Lib.hid (fun h => by have := HD0.out; omega), Lib.hid (by have := HD0.out; have := HC.out; omega), Lib.hid ?_, Lib.hid (HJ.out _ _ _ HJ3.out (Touch.setCell _ (by simp) _))⟩
              · rw [HD0.out]; exact HL4
              · exact (Below.heap_setCell _ _ _ _ (fun e => HNE.out e.symm)).trans HB3.out
            case measure => rw [lenAt_of HL4.out, HLr.out]; omega
          · have hml : 30 < c' := by omega
            have HL4 := Lib.hid (heap_set HL3.out 0 (.slice (some ⟨g, o + doneR 30 n j * 257 + 30 * 257, none⟩) (r - 30) (c' - 30)))
            have HD1 := Lib.hid (show n - doneR 30 n (j + 1) = (r - 30) by have := HD.out; have := HR.out; omega)
            clear hcc
            gi_wp2
            go_roundw
            case rel =>
              refine ⟨j + 1, some ⟨g, o + doneR 30 n j * 257 + 30 * 257, none⟩, c' - 30, by omega, ?_, Lib.hid (fun h => by rw [HD.out, Nat.add_mul, Nat.add_assoc]), Lib.hid (by have := HD1.out; have := HC'.out; omega), Lib.hid ?_, Lib.hid (HJ.out _ _ _ HJ3.out (Touch.setCell _ (by simp) _))⟩
              · rw [HD1.out]; exact HL4
              · exact (Below.heap_setCell _ _ _ _ (fun e => HNE.out e.symm)).trans HB3.out
            case measure => rw [lenAt_of HL4.out, HLr.out]; omega
        · gi_wp2
          refine bodyPost_ret (results_none rfl _ _ _) rfl ?_
          exact ⟨⟨_, rfl⟩, .inr hJx3⟩
      · have hm : r = min 30 r := by omega
        have hm1 : r ≤ r := by omega
        have hm2 : ((r : Nat) : Int) ≤ (c' : Int) := by have := HC'.out; omega
        have hm3 : ((r : Nat) : Int) ≤ (r : Int) := by omega
        have HM := Lib.hid hm
        have hae := HA'.out hlt
        subst hae
        have HRV := Lib.hid (show rowV g o 257 30 n j = .slice (some ⟨g, o + doneR 30 n j * 257, none⟩) r r by unfold rowV; rw [← HR.out, ← HM.out])
        obtain ⟨fn, tmps, assign, body, hy, hRd⟩ := HY.out j wr hjm HJ'.out
        rw [HRV.out] at hy
        have HRd := Lib.hid hRd
        have b0 : (0 : Int) < (r : Int) := by omega
        clear hr hm hRd hlt
        gi_wp2
        refine HRd.out.mono ?_
        rintro e W3 ⟨hkeep, (⟨rfl, hJ3⟩ | ⟨rfl, hJx3⟩)⟩
        · have HL3 := Lib.hid ((hkeep Bl (by simp)).trans HL'.out)
          have HB3 := Lib.hid ((hkeep Bn (by simp)).trans HB'.out)
          have HJ3 := Lib.hid hJ3
          clear c1 c2 hkeep hJ3 hy
          have c1 : W3.cell? ⟨Bl, 0, none⟩ = some (.slice (some ⟨g, o + doneR 30 n j * 257, none⟩) r c') := cell_at HL3.out 0
          have f1 : W3.frozen? ⟨Bl, 0, none⟩ = false := frozen_at HL3.out 0
          have HD := Lib.hid (show doneR 30 n (j + 1) = doneR 30 n j + r from doneR_succ HR.out HM.out)
          have hcc := HC'.out
          have HLr := Lib.hid (lenAt_of HL'.out)
          by_cases hmc : c' = r
          · have hr0 : r = r := by omega
            have HD0 := Lib.hid (show n - doneR 30 n (j + 1) = 0 by have := HD.out; have := HR.out; omega)
            have HL4 := Lib.hid (heap_set HL3.out 0 (.slice (some ⟨g, o + doneR 30 n j * 257, none⟩) 0 0))
            clear hcc
            subst hmc
            clear hr0
            gi_wp2
            go_roundw
            case rel =>
              refine ⟨j + 1, some ⟨g, o + doneR 30 n j * 257, none⟩, 0, by omega, ?_, Lib.hid (fun h => by have := HD0.out; omega), Lib.hid (by have := HD0.out; have := HC.out; omega), Lib.hid ?_, Lib.hid (HJ.out _ _ _ HJ3.out (Touch.setCell _ (by simp) _))⟩
              · rw [HD0.out]; exact HL4
              · exact (Below.heap_setCell _ _ _ _ (fun e => HNE.out e.symm)).trans HB3.out
            case measure => rw [lenAt_of HL4.out, HLr.out]; omega
          · have hml : r < c' := by omega
            have HL4 := Lib.hid (heap_set HL3.out 0 (.slice (some ⟨g, o + doneR 30 n j * 257 + r * 257, none⟩) 0 (c' - r)))
            have HD1 := Lib.hid (show n - doneR 30 n (j + 1) = 0 by have := HD.out; have := HR.out; omega)
            clear hcc
            gi_wp2
            go_roundw
            case rel =>
              refine ⟨j + 1, some ⟨g, o + doneR 30 n j * 257 + r * 257, none⟩, c' - r, by omega, ?_, Lib.hid (fun h => by rw [HD.out, Nat.add_mul, Nat.add_assoc]), Lib.hid (by have := HD1.out; have := HC'.out; omega), Lib.hid ?_, Lib.hid (HJ.out _ _ _ HJ3.out (Touch.setCell _ (by simp) _))⟩
              · rw [HD1.out]; exact HL4
              · exact (Below.heap_setCell _ _ _ _ (fun e => HNE.out e.symm)).trans HB3.out
            case measure => rw [lenAt_of HL4.out, HLr.out]; omega
        · gi_wp2
          refine bodyPost_ret (results_none rfl _ _ _) rfl ?_
          exact ⟨⟨_, rfl⟩, .inr hJx3⟩
    · obtain rfl : r = 0 := by omega
      have hje : j = rowsN 30 n := rowsN_eq (by omega) hj HR.out
      have HJE := Lib.hid hje
      clear hje hr h
      gi_wp2
      go_end0
      exact ⟨⟨_, rfl⟩, .inl (by rw [← HJE.out]; exact HJ'.out)⟩
#print axioms rowsC_in

set_option maxRecDepth 100000 in
set_option maxHeartbeats 2000000 in
theorem rowsI_in (n0 : Nat) (hn : 1 ≤ n0) (g o n c Bl Bn : Nat) (a : Option Addr) (ha : 0 < n → a = some ⟨g, o, none⟩) (hnc : n ≤ c) (hc : c ≤ maxLen) (hne : Bl ≠ Bn) (w0 : World)
    (hl : w0.heap[Bl]? = some (.cells #[.slice a n c] 26)) (hb : w0.heap[Bn]? = some (.cells #[.int .i64 60] 3)) :
    Counted Fence.wide n0 Tryd.prog 47 #[.pointer (some ⟨Bl, 0, none⟩), .pointer (some ⟨Bn, 0, none⟩)] (fun k => #[rowV g o 1 60 n k]) (rowsN 60 n) [Bl, Bn] w0 := by
  intro l J Jx W hW hJ hY h0
  have HJ := Lib.hid hJ
  have HY := Lib.hid hY
  have H0 := Lib.hid h0
  have HNE := Lib.hid hne
  have HL := Lib.hid ((hW.block Bl (Array.getElem?_eq_some_iff.1 hl).1 (by simp)).trans hl)
  have HB := Lib.hid ((hW.block Bn (Array.getElem?_eq_some_iff.1 hb).1 (by simp)).trans hb)
  have HA := Lib.hid ha
  have HNC := Lib.hid hnc
  have HC := Lib.hid hc
  clear hJ hY h0 hl hb hW hne ha hnc hc
  have hro : Fence.wide.round = none := rfl
  refine callsIn_of_wp Tryd.func47 rfl trivial ?_ hro
  simp only [Tryd.ntmps47, List.size_toArray, List.length_cons, List.length_nil, Nat.reduceAdd, Nat.reduceSub, Array.replicate_succ, Array.replicate_zero, List.push_toArray, List.append_toArray, List.nil_append, List.cons_append]
  gi_wp2
  gi_loopw [4] (fun _ wr => ∃ (j : Nat) (a' : Option Addr) (c' : Nat), j ≤ rowsN 60 n ∧ Hid (wr.heap[Bl]? = some (.cells #[.slice a' (n - doneR 60 n j) c'] 26)) ∧ Hid (doneR 60 n j < n → a' = some ⟨g, o + doneR 60 n j, none⟩) ∧ Hid (n - doneR 60 n j ≤ c' ∧ c' ≤ maxLen) ∧ Hid (wr.heap[Bn]? = some (.cells #[.int .i64 60] 3)) ∧ Hid (J j wr)) (fun _ wr => lenAt wr Bl)
  case atStart => exact ⟨0, a, c, Nat.zero_le _, by rw [doneR_zero, Nat.sub_zero]; exact HL, Lib.hid (by rw [doneR_zero, Nat.add_zero]; exact HA.out), Lib.hid (by rw [doneR_zero, Nat.sub_zero]; exact ⟨HNC.out, HC.out⟩), HB, H0⟩
  case round =>
    obtain ⟨j, a', c', hj, HL', HA', HC', HB', HJ'⟩ := hrel
    clear HL HB H0
    obtain ⟨r, hr⟩ : ∃ r, r = n - doneR 60 n j := ⟨_, rfl⟩
    rw [← hr] at HL' HC'
    have HR := Lib.hid hr
    have c1 : wr.cell? ⟨Bl, 0, none⟩ = some (.slice a' r c') := cell_at HL'.out 0
    have c2 : wr.cell? ⟨Bn, 0, none⟩ = some (.int .i64 60) := cell_at HB'.out 0
    by_cases h : 0 < r
    · have hlt : doneR 60 n j < n := by omega
      have hjm : j < rowsN 60 n := rowsN_lt (by omega) hlt
      by_cases hpr : 60 ≤ r
      · have hm : 60 = min 60 r := by omega
        have hm1 : 60 ≤ r := by omega
        have hm2 : ((60 : Nat) : Int) ≤ (c' : Int) := by have := HC'.out; omega
        have hm3 : ((60 : Nat) : Int) ≤ (r : Int) := by omega
        have HM := Lib.hid hm
        have hae := HA'.out hlt
        subst hae
        have HRV := Lib.hid (show rowV g o 1 60 n j = .slice (some ⟨g, o + doneR 60 n j, none⟩) 60 60 by unfold rowV; rw [Nat.mul_one, ← HR.out, ← HM.out])
        obtain ⟨fn, tmps, assign, body, hy, hRd⟩ := HY.out j wr hjm HJ'.out
        rw [HRV.out] at hy
        have HRd := Lib.hid hRd
        have b0 : (0 : Int) < (r : Int) := by omega
        clear hr hm hRd hlt
        gi_wp2
        refine HRd.out.mono ?_
        rintro e W3 ⟨hkeep, (⟨rfl, hJ3⟩ | ⟨rfl, hJx3⟩)⟩
        · have HL3 := Lib.hid ((hkeep Bl (by simp)).trans HL'.out)
          have HB3 := Lib.hid ((hkeep Bn (by simp)).trans HB'.out)
          have HJ3 := Lib.hid hJ3
          clear c1 c2 hkeep hJ3 hy
          have c1 : W3.cell? ⟨Bl, 0, none⟩ = some (.slice (some ⟨g, o + doneR 60 n j, none⟩) r c') := cell_at HL3.out 0
          have f1 : W3.frozen? ⟨Bl, 0, none⟩ = false := frozen_at HL3.out 0
          have HD := Lib.hid (show doneR 60 n (j + 1) = doneR 60 n j + 60 from doneR_succ HR.out HM.out)
          have hcc := HC'.out
          have HLr := Lib.hid (lenAt_of HL'.out)
          by_cases hmc : c' = 60
          · have hr0 : r = 60 := by omega
            have HD0 := Lib.hid (show n - doneR 60 n (j + 1) = 0 by have := HD.out; have := HR.out; omega)
            have HL4 := Lib.hid (heap_set HL3.out 0 (.slice (some ⟨g, o + doneR 60 n j, none⟩) 0 0))
            clear hcc
            subst hmc
            subst hr0
            gi_wp2
            go_roundw
            case rel =>
              refine ⟨j + 1, some ⟨g, o + doneR 60 n j, none⟩, 0, by omega, ?_, Lib.hid (fun h => by have := HD0.out; omega), Lib.hid (by have := HD0.out; have := HC.out; omega), Lib.hid ?_, Lib.hid (HJ.out _ _ _ HJ3.out (Touch.setCell _ (by simp) _))⟩
              · rw [HD0.out]; exact HL4
              · exact (Below.heap_setCell _ _ _ _ (fun e => HNE.out e.symm)).trans HB3.out
            case measure => rw [lenAt_of HL4.out, HLr.out]; omega
          · have hml : 60 < c' := by omega
            have HL4 := Lib.hid (heap_set HL3.out 0 (.slice (some ⟨g, o + doneR 60 n j + 60, none⟩) (r - 60) (c' - 60)))
            have HD1 := Lib.hid (show n - doneR 60 n (j + 1) = (r - 60) by have := HD.out; have := HR.out; omega)
            clear hcc
            gi_wp2
            go_roundw
            case rel =>
              refine ⟨j + 1, some ⟨g, o + doneR 60 n j + 60, none⟩, c' - 60, by omega, ?_, Lib.hid (fun h => by rw [HD.out, Nat.add_assoc]), Lib.hid (by have := HD1.out; have := HC'.out; omega), Lib.hid ?_, Lib.hid (HJ.out _ _ _ HJ3.out (Touch.setCell _ (by simp) _))⟩
              · rw [HD1.out]; exact HL4
              · exact (Below.heap_setCell _ _ _ _ (fun e => HNE.out e.symm)).trans HB3.out
            case measure => rw [lenAt_of HL4.out, HLr.out]; omega
        · gi_wp2
          refine bodyPost_ret (results_none rfl _ _ _) rfl ?_
          exact ⟨⟨_, rfl⟩, .inr hJx3⟩
      · have hm : r = min 60 r := by omega
        have hm1 : r ≤ r := by omega
        have hm2 : ((r : Nat) : Int) ≤ (c' : Int) := by have := HC'.out; omega
        have hm3 : ((r : Nat) : Int) ≤ (r : Int) := by omega
        have HM := Lib.hid hm
        have hae := HA'.out hlt
        subst hae
        have HRV := Lib.hid (show rowV g o 1 60 n j = .slice (some ⟨g, o + doneR 60 n j, none⟩) r r by unfold rowV; rw [Nat.mul_one, ← HR.out, ← HM.out])
        obtain ⟨fn, tmps, assign, body, hy, hRd⟩ := HY.out j wr hjm HJ'.out
        rw [HRV.out] at hy
        have HRd := Lib.hid hRd
        have b0 : (0 : Int) < (r : Int) := by omega
        clear hr hm hRd hlt
        gi_wp2
        refine HRd.out.mono ?_
        rintro e W3 ⟨hkeep, (⟨rfl, hJ3⟩ | ⟨rfl, hJx3⟩)⟩
        · have HL3 := Lib.hid ((hkeep Bl (by simp)).trans HL'.out)
          have HB3 := Lib.hid ((hkeep Bn (by simp)).trans HB'.out)
          have HJ3 := Lib.hid hJ3
          clear c1 c2 hkeep hJ3 hy
          have c1 : W3.cell? ⟨Bl, 0, none⟩ = some (.slice (some ⟨g, o + doneR 60 n j, none⟩) r c') := cell_at HL3.out 0
          have f1 : W3.frozen? ⟨Bl, 0, none⟩ = false := frozen_at HL3.out 0
          have HD := Lib.hid (show doneR 60 n (j + 1) = doneR 60 n j + r from doneR_succ HR.out HM.out)
          have hcc := HC'.out
          have HLr := Lib.hid (lenAt_of HL'.out)
          by_cases hmc : c' = r
          · have hr0 : r = r := by omega
            have HD0 := Lib.hid (show n - doneR 60 n (j + 1) = 0 by have := HD.out; have := HR.out; omega)
            have HL4 := Lib.hid (heap_set HL3.out 0 (.slice (some ⟨g, o + doneR 60 n j, none⟩) 0 0))
            clear hcc
            subst hmc
            clear hr0
            gi_wp2
            go_roundw
            case rel =>
              refine ⟨j + 1, some ⟨g, o + doneR 60 n j, none⟩, 0, by omega, ?_, Lib.hid (fun h => by have := HD0.out; omega), Lib.hid (by have := HD0.out; have := HC.out; omega), Lib.hid ?_, Lib.hid (HJ.out _ _ _ HJ3.out (Touch.setCell _ (by simp) _))⟩
              · rw [HD0.out]; exact HL4
              · exact (Below.heap_setCell _ _ _ _ (fun e => HNE.out e.symm)).trans HB3.out
            case measure => rw [lenAt_of HL4.out, HLr.out]; omega
          · have hml : r < c' := by omega
            have HL4 := Lib.hid (heap_set HL3.out 0 (.slice (some ⟨g, o + doneR 60 n j + r, none⟩) 0 (c' - r)))
            have HD1 := Lib.hid (show n - doneR 60 n (j + 1) = 0 by have := HD.out; have := HR.out; omega)
            clear hcc
            gi_wp2
            go_roundw
            case rel =>
              refine ⟨j + 1, some ⟨g, o + doneR 60 n j + r, none⟩, c' - r, by omega, ?_, Lib.hid (fun h => by rw [HD.out, Nat.add_assoc]), Lib.hid (by have := HD1.out; have := HC'.out; omega), Lib.hid ?_, Lib.hid (HJ.out _ _ _ HJ3.out (Touch.setCell _ (by simp) _))⟩
              · rw [HD1.out]; exact HL4
              · exact (Below.heap_setCell _ _ _ _ (fun e => HNE.out e.symm)).trans HB3.out
            case measure => rw [lenAt_of HL4.out, HLr.out]; omega
        · gi_wp2
          refine bodyPost_ret (results_none rfl _ _ _) rfl ?_
          exact ⟨⟨_, rfl⟩, .inr hJx3⟩
    · obtain rfl : r = 0 := by omega
      have hje : j = rowsN 60 n := rowsN_eq (by omega) hj HR.out
      have HJE := Lib.hid hje
      clear hje hr h
      gi_wp2
      go_end0
      exact ⟨⟨_, rfl⟩, .inl (by rw [← HJE.out]; exact HJ'.out)⟩
#print axioms rowsI_in
end Go.Proofs.YtieknecbheeekaaDoor
