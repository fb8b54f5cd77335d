/- pack.may, Size: the walks. -/
import Derived.Test.YtieknecbheeekaaDoorP3
set_option linter.unusedVariables false
set_option linter.unusedSimpArgs false
namespace Go.Proofs.YtieknecbheeekaaDoor
open Go.RowKit Go.Maps

theorem bfalse {b : Bool} {p : Prop} (h : b = true ↔ p) (hn : ¬ p) : b = false := by
  cases b with
  | false => rfl
  | true => exact absurd (h.1 rfl) hn
/-- a transaction of one copy that may be, whose block isn't escaped -/
def Single (seq : Nat) (cs : List Cp) (rs : List Int) : Prop := (1 ≤ seq ∧ seq ≤ 2147483648) ∧ rs = [] ∧ ∃ c, cs = [c] ∧ 0 ≤ c.1 ∧ c.1 < 2048 ∧ Plain1 c.2
def MayPost (seq : Nat) (cs : List Cp) (rs : List Int) (w : World) (e : Ending) (w' : World) : Prop := ∃ b : Bool, e = .returned (.bool b) ∧ Grow w w' ∧ (b = true → (1 ≤ seq ∧ seq ≤ 2147483648) ∧ (cs ≠ [] ∨ rs ≠ [])) ∧ (Single seq cs rs → b = true)
set_option maxRecDepth 100000 in
set_option maxHeartbeats 4000000 in
theorem pmay_ok {w : World} {vc vr : Value} {cs : List Cp} {rs : List Int} (hc : CSee w vc cs) (hr : ISee w vr rs) (hcl : cs.length ≤ 100000) (hrl : rs.length ≤ 100000) (seq : Nat) :
    Calls Tryd.prog 23 #[.agg #[.int .u32 (seq : Int), vc, vr]] w (MayPost seq cs rs w) := by
  have hg0 : Grow w (w.alloc (.cells #[.int .u32 (seq : Int), vc, vr] 28)) := Grow.alloc _ _
  have HC := Lib.hid (hc.grow hg0)
  have HR := Lib.hid (hr.grow hg0)
  have HG := Lib.hid hg0
  have HO := Lib.hid (heap_alloc_last w (.cells #[.int .u32 (seq : Int), vc, vr] 28))
  obtain ⟨ac, kc, hvc⟩ := hc.len
  obtain ⟨ar, kr, hvr⟩ := hr.len
  obtain ⟨nc, hnc⟩ : ∃ nc, nc = cs.length := ⟨_, rfl⟩
  obtain ⟨nr, hnr⟩ : ∃ nr, nr = rs.length := ⟨_, rfl⟩
  rw [← hnc] at hvc hcl
  rw [← hnr] at hvr hrl
  subst hvc hvr
  have HNC := Lib.hid hnc
  have HNR := Lib.hid hnr
  clear hc hr hg0 hnc hnr
  go_enter Tryd.func23, Tryd.ntmps23
  go_upto_region 1 with fail
  generalize w.alloc (.cells #[.int .u32 (seq : Int), .slice ac nc kc, .slice ar nr kr] 28) = w0 at *
  obtain ⟨B, hB⟩ : ∃ B, B = w.heap.size := ⟨_, rfl⟩
  rw [← hB] at HO ⊢
  have q0 : w0.cell? ⟨B, 0, none⟩ = some (.int .u32 (seq : Int)) := cell_at HO.out 0
  have q1 : w0.cell? ⟨B, 1, none⟩ = some (.slice ac nc kc) := cell_at HO.out 1
  have q2 : w0.cell? ⟨B, 2, none⟩ = some (.slice ar nr kr) := cell_at HO.out 2
  clear hB HO
  obtain ⟨bb, hbb⟩ : ∃ bb : Bool, (bb = true ↔ ¬ ((1 ≤ seq ∧ seq ≤ 2147483648) ∧ ¬ (nc = 0 ∧ nr = 0))) := by
    by_cases h : (1 ≤ seq ∧ seq ≤ 2147483648) ∧ ¬ (nc = 0 ∧ nr = 0)
    · exact ⟨false, ⟨fun e => (by cases e), fun e => absurd h e⟩⟩
    · exact ⟨true, ⟨fun _ => h, fun _ => rfl⟩⟩
  have HBB := Lib.hid hbb
  clear hbb
  go_cut [27] from 8 to 27 (fun t27 wx => t27 = .bool bb ∧ wx = w0)
  case first =>
    by_cases h1 : seq < 1
    · have d0 : decide ((seq : Int) < 1) = true := decide_eq_true (by omega)
      have HE := Lib.hid (show bb = true from HBB.out.2 (by omega))
      go_wp2_with fail
      go_meet
      exact ⟨by rw [HE.out], rfl⟩
    · have d0 : decide ((seq : Int) < 1) = false := decide_eq_false (by omega)
      by_cases h2 : seq > 2147483648
      · have d1 : decide ((seq : Int) > 2147483648) = true := decide_eq_true (by omega)
        have HE := Lib.hid (show bb = true from HBB.out.2 (by omega))
        go_wp2_with fail
        go_meet
        exact ⟨by rw [HE.out], rfl⟩
      · have d1 : decide ((seq : Int) > 2147483648) = false := decide_eq_false (by omega)
        by_cases h3 : nc = 0
        · have d2 : ((nc : Int) == 0) = true := by simp [h3]
          by_cases h4 : nr = 0
          · have d3 : ((nr : Int) == 0) = true := by simp [h4]
            have HE := Lib.hid (show bb = true from HBB.out.2 (by omega))
            have H3 := Lib.hid h3
            have H4 := Lib.hid h4
            clear h3 h4
            go_wp2_with fail
            go_meet
            exact ⟨by rw [HE.out], rfl⟩
          · have d3 : ((nr : Int) == 0) = false := by simp [h4]
            have HE := Lib.hid (show bb = false from bfalse HBB.out (by omega))
            have H3 := Lib.hid h3
            have H4 := Lib.hid h4
            clear h3 h4
            go_wp2_with fail
            go_meet
            exact ⟨by rw [HE.out], rfl⟩
        · have d2 : ((nc : Int) == 0) = false := by simp [h3]
          have HE := Lib.hid (show bb = false from bfalse HBB.out (by omega))
          have H3 := Lib.hid h3
          clear h3
          go_wp2_with fail
          go_meet
          exact ⟨by rw [HE.out], rfl⟩
  case rest =>
    obtain ⟨rfl, hwx⟩ := hcut
    subst hwx
    cases bb with
    | true =>
      have HF := Lib.hid (show ¬ Single seq cs rs from fun h => by
        have h0 := HBB.out.1 rfl
        obtain ⟨hs, _, c, hc, _⟩ := h
        have := HNC.out
        rw [hc] at this
        simp at this
        exact h0 ⟨hs, by omega⟩)
      go_wp2_with fail
      go_ret
      exact ⟨false, rfl, HG.out, (fun h => (by cases h)), fun h => absurd h HF.out⟩
    | false =>
      have HOK := Lib.hid (show (1 ≤ seq ∧ seq ≤ 2147483648) ∧ (cs ≠ [] ∨ rs ≠ []) by
        have h0 : (1 ≤ seq ∧ seq ≤ 2147483648) ∧ ¬ (nc = 0 ∧ nr = 0) := by
          by_cases hh : (1 ≤ seq ∧ seq ≤ 2147483648) ∧ ¬ (nc = 0 ∧ nr = 0)
          · exact hh
          · have := HBB.out.2 hh; cases this
        refine ⟨h0.1, ?_⟩
        by_cases e : nc = 0
        · right; intro h; have := HNR.out; rw [h] at this; simp at this; omega
        · left; intro h; have := HNC.out; rw [h] at this; simp at this; omega)
      go_wp2_with fail
      go_loop [3, 31] (fun t3 t31 => ∃ (k : Nat) (last : Int), k ≤ nc ∧ t31 = .int .i64 (k : Int) ∧ t3 = .int .i64 last ∧ Hid (k = 0 → last = -1)) (fun _ t31 => nc - (intOf t31).toNat)
      case atStart => exact ⟨0, -1, by omega, by go_num, rfl, Lib.hid fun _ => rfl⟩
      case round =>
        obtain ⟨k, last, hk, rfl, rfl, HLA⟩ := hrel
        by_cases hlt : k < nc
        · obtain ⟨c, hck⟩ : ∃ c, cs[k]? = some c := ⟨cs[k]'(by rw [← HNC.out]; exact hlt), by simp⟩
          obtain ⟨gc, oc, rfl, _, _, hcell, _⟩ := HC.out.at_ hck
          have HSI := Lib.hid (show Single seq cs rs → last = -1 ∧ 0 ≤ c.1 ∧ c.1 < 2048 from fun h => by
            obtain ⟨_, _, d, hd, h0, h1, _⟩ := h
            rw [hd] at hck
            have hk0 : k = 0 := by have := (List.getElem?_eq_some_iff.1 hck).1; simpa using this
            subst hk0
            simp only [List.getElem?_cons_zero, Option.some.injEq] at hck
            subst hck
            exact ⟨HLA.out rfl, h0, h1⟩)
          obtain ⟨b, hb⟩ : ∃ b, c.1 = b := ⟨_, rfl⟩
          rw [hb] at hcell HSI
          have b0 : (0 : Int) ≤ (k : Int) := by omega
          have b1 : (k : Int) < (nc : Int) := by omega
          clear hck hb
          by_cases e1 : b ≤ last
          · have d1 : decide (b ≤ last) = true := decide_eq_true e1
            have HF := Lib.hid (show ¬ Single seq cs rs from fun h => by have := HSI.out h; omega)
            go_wp2_with fail
            go_ret
            exact ⟨false, rfl, HG.out, (fun h => (by cases h)), fun h => absurd h HF.out⟩
          · have d1 : decide (b ≤ last) = false := decide_eq_false e1
            by_cases e2 : b ≥ 2048
            · have d2 : decide (b ≥ 2048) = true := decide_eq_true e2
              have HF := Lib.hid (show ¬ Single seq cs rs from fun h => by have := HSI.out h; omega)
              go_wp2_with fail
              go_ret
              exact ⟨false, rfl, HG.out, (fun h => (by cases h)), fun h => absurd h HF.out⟩
            · have d2 : decide (b ≥ 2048) = false := decide_eq_false e2
              go_wp2_with fail
              go_round
              case rel => exact ⟨k + 1, b, by omega, by go_num, rfl, Lib.hid fun h => by omega⟩
              case measure => simp [intOf]; omega
        · obtain rfl : k = nc := by omega
          clear HLA
          go_wp2_with fail
          go_loop [3, 52] (fun t3 t52 => ∃ (j : Nat) (last : Int), j ≤ nr ∧ t52 = .int .i64 (j : Int) ∧ t3 = .int .i64 last) (fun _ t52 => nr - (intOf t52).toNat)
          case atStart => exact ⟨0, -1, by omega, by go_num, rfl⟩
          case round =>
            obtain ⟨j, last, hj, rfl, rfl⟩ := hrel
            by_cases hjt : j < nr
            · have HF := Lib.hid (show ¬ Single seq cs rs from fun h => by
                obtain ⟨_, hr0, _⟩ := h
                have := HNR.out
                rw [hr0] at this
                simp at this
                omega)
              obtain ⟨z, hzj⟩ : ∃ z, rs[j]? = some z := ⟨rs[j]'(by rw [← HNR.out]; exact hjt), by simp⟩
              obtain ⟨gr, or, rfl, _, hcell, _⟩ := HR.out.at_ hzj
              have b0 : (0 : Int) ≤ (j : Int) := by omega
              have b1 : (j : Int) < (nr : Int) := by omega
              clear hzj
              by_cases e1 : z ≤ last
              · have d1 : decide (z ≤ last) = true := decide_eq_true e1
                go_wp2_with fail
                go_ret
                exact ⟨false, rfl, HG.out, (fun h => (by cases h)), fun h => absurd h HF.out⟩
              · have d1 : decide (z ≤ last) = false := decide_eq_false e1
                by_cases e2 : z ≥ 2048
                · have d2 : decide (z ≥ 2048) = true := decide_eq_true e2
                  go_wp2_with fail
                  go_ret
                  exact ⟨false, rfl, HG.out, (fun h => (by cases h)), fun h => absurd h HF.out⟩
                · have d2 : decide (z ≥ 2048) = false := decide_eq_false e2
                  go_wp2_with fail
                  go_round
                  case rel => exact ⟨j + 1, z, by omega, by go_num, rfl⟩
                  case measure => simp [intOf]; omega
            · obtain rfl : j = nr := by omega
              go_wp2_with fail
              go_ret
              exact ⟨true, rfl, HG.out, fun _ => HOK.out, fun _ => rfl⟩
#print axioms pmay_ok
/-- how many blocks a transaction has -/
def sizeN (nc nr : Nat) : Nat := nc + (nc + 29) / 30 + (nr + 59) / 60 + 1
theorem rowsOf_ok (a b : Nat) (ha : a ≤ 100000) (hb : 1 ≤ b) (hb2 : b ≤ 100) (w : World) : Calls Tryd.prog 43 #[.int .i64 (a : Int), .int .i64 (b : Int)] w fun e w' => e = .returned (.int .i64 ((a + b - 1) / b : Nat)) ∧ w = w' := by
  have hw1 : IntKind.i64.wrap ((a : Int) + (b : Int)) = (a : Int) + (b : Int) := by rw [IntKind.wrap_i64] <;> omega
  have hw2 : IntKind.i64.wrap ((a : Int) + (b : Int) - 1) = ((a + b - 1 : Nat) : Int) := by rw [IntKind.wrap_i64] <;> omega
  have hq : ((a + b - 1 : Nat) : Int).tdiv (b : Int) = (((a + b - 1) / b : Nat) : Int) := by rw [Int.tdiv_eq_ediv_of_nonneg (by omega)]; exact (Int.natCast_ediv _ _).symm
  have hle : (a + b - 1) / b ≤ a + b - 1 := Nat.div_le_self _ _
  obtain ⟨q, hqq⟩ : ∃ q, q = (a + b - 1) / b := ⟨_, rfl⟩
  rw [← hqq] at hq hle ⊢
  have hw3 : IntKind.i64.wrap (q : Int) = (q : Int) := by rw [IntKind.wrap_i64] <;> omega
  clear hqq
  have hb0 : ((b : Int) == 0) = false := by simp; omega
  have hb1 : ¬ ((b : Int) = 0) := by omega
  go_enter Tryd.func43, Tryd.ntmps43
  go_wp2
  go_ret
  exact ⟨rfl, rfl⟩
#print axioms rowsOf_ok
theorem size_ok (nc nr : Nat) (hc : nc ≤ 2048) (hr : nr ≤ 2048) (h0 : ¬ (nc = 0 ∧ nr = 0)) (w : World) : Calls Tryd.prog 24 #[.int .i64 (nc : Int), .int .i64 (nr : Int)] w fun e w' => e = .returned (.int .i64 (sizeN nc nr : Int)) ∧ w = w' := by
  have HA := Lib.hid (rowsOf_ok nc 30 (by omega) (by omega) (by omega) w)
  have HB := Lib.hid (rowsOf_ok nr 60 (by omega) (by omega) (by omega) w)
  obtain ⟨a, ha⟩ : ∃ a, a = (nc + 30 - 1) / 30 := ⟨_, rfl⟩
  obtain ⟨b, hb⟩ : ∃ b, b = (nr + 60 - 1) / 60 := ⟨_, rfl⟩
  rw [← ha] at HA
  rw [← hb] at HB
  have hs : sizeN nc nr = nc + a + b + 1 := by unfold sizeN; rw [ha, hb, show nc + 30 - 1 = nc + 29 by omega, show nr + 60 - 1 = nr + 59 by omega]
  have hale : a ≤ 100 := by rw [ha]; omega
  have hble : b ≤ 100 := by rw [hb]; omega
  have HS := Lib.hid hs
  have hw1 : IntKind.i64.wrap ((nc : Int) + (a : Int)) = (nc : Int) + (a : Int) := by rw [IntKind.wrap_i64] <;> omega
  have hw2 : IntKind.i64.wrap ((nc : Int) + (a : Int) + (b : Int)) = (nc : Int) + (a : Int) + (b : Int) := by rw [IntKind.wrap_i64] <;> omega
  have hw3 : IntKind.i64.wrap ((nc : Int) + (a : Int) + (b : Int) + 1) = (nc : Int) + (a : Int) + (b : Int) + 1 := by rw [IntKind.wrap_i64] <;> omega
  have d0 : decide ((nc : Int) < 0) = false := decide_eq_false (by omega)
  have d1 : decide ((nr : Int) < 0) = false := decide_eq_false (by omega)
  have d2 : decide ((nc : Int) > 2048) = false := decide_eq_false (by omega)
  have d3 : decide ((nr : Int) > 2048) = false := decide_eq_false (by omega)
  clear ha hb hs
  by_cases e : nc = 0
  · have e0 : ((nc : Int) == 0) = true := by simp [e]
    have e1 : ((nr : Int) == 0) = false := by simp; omega
    have E := Lib.hid e
    clear e h0
    go_enter Tryd.func24, Tryd.ntmps24
    go_wp2_with fail
    refine HA.out.mono ?_
    rintro e w' ⟨rfl, rfl⟩
    go_wp2_with fail
    refine HB.out.mono ?_
    rintro e w' ⟨rfl, rfl⟩
    go_wp2_with fail
    go_ret
    exact ⟨by rw [HS.out]; simp, rfl⟩
  · have e0 : ((nc : Int) == 0) = false := by simp [e]
    have E := Lib.hid e
    clear e h0
    go_enter Tryd.func24, Tryd.ntmps24
    go_wp2_with fail
    refine HA.out.mono ?_
    rintro e w' ⟨rfl, rfl⟩
    go_wp2_with fail
    refine HB.out.mono ?_
    rintro e w' ⟨rfl, rfl⟩
    go_wp2_with fail
    go_ret
    exact ⟨by rw [HS.out]; simp, rfl⟩
#print axioms size_ok
end Go.Proofs.YtieknecbheeekaaDoor
