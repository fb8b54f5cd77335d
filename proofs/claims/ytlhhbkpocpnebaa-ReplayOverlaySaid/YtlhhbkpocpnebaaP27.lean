/- quernref15.Same, quernref18.SameAll of the same: the walks. -/
import Derived.Test.YtlhhbkpocpnebaaP27a
set_option linter.unusedVariables false
set_option linter.unusedSimpArgs false
namespace Go.Proofs.Ytlhhbkpocpnebaa
open Go.RowKit Go.Maps

set_option maxRecDepth 100000 in
set_option maxHeartbeats 8000000 in
theorem same15_ok {w : World} {x y : TV} (hx : TAt w x) (hy : TAt w y) (ht : x.t = y.t) (hl : x.t.cs.length ≤ 1000000) : Calls Try.prog 37 #[.agg (tcell x).toArray, .agg (tcell y).toArray] w fun e w' => e = .returned (.bool true) ∧ Grow w w' := by
  obtain ⟨ax, cx, hvx⟩ := CRow.len hx.cs
  obtain ⟨bx, dx, hwx⟩ := IRow.len hx.rs
  obtain ⟨ay, cy, hvy⟩ := CRow.len hy.cs
  obtain ⟨b_y, dy, hwy⟩ := IRow.len hy.rs
  rw [← ht] at hvy hwy
  have HCX := Lib.hid hx.cs
  have HRX := Lib.hid hx.rs
  have HCY := Lib.hid hy.cs
  have HRY := Lib.hid hy.rs
  rw [← ht] at HCY HRY
  have hrn := hx.ok.rn
  rw [hvx] at HCX
  rw [hwx] at HRX
  rw [hvy] at HCY
  rw [hwy] at HRY
  obtain ⟨cs, hcs⟩ : ∃ cs, cs = x.t.cs := ⟨_, rfl⟩
  obtain ⟨rs, hrs⟩ : ∃ rs, rs = x.t.rs := ⟨_, rfl⟩
  obtain ⟨sq, hsq⟩ : ∃ sq, sq = x.t.seq := ⟨_, rfl⟩
  unfold tcell
  rw [hvx, hwx, hvy, hwy, ← ht, ← hcs, ← hrs, ← hsq]
  rw [← hcs] at HCX HCY hl
  rw [← hrs] at HRX HRY hrn
  obtain ⟨n, hn⟩ : ∃ n, n = cs.length := ⟨_, rfl⟩
  obtain ⟨m, hm⟩ : ∃ m, m = rs.length := ⟨_, rfl⟩
  rw [← hn] at HCX HCY hl ⊢
  rw [← hm] at HRX HRY hrn ⊢
  have HN := Lib.hid hn
  have HM := Lib.hid hm
  clear hx hy ht hvx hwx hvy hwy hcs hrs hsq hn hm
  have HG0 := Lib.hid (show Grow w ((w.alloc (.cells #[.int .u32 (sq : Int), .slice ax n cx, .slice bx m dx] 55)).alloc (.cells #[.int .u32 (sq : Int), .slice ay n cy, .slice b_y m dy] 55)) from Grow.trans (Grow.alloc _ _) (Grow.alloc _ _))
  have HPA := Lib.hid (heap_one w (.cells #[.int .u32 (sq : Int), .slice ax n cx, .slice bx m dx] 55) (.cells #[.int .u32 (sq : Int), .slice ay n cy, .slice b_y m dy] 55))
  have HPB := Lib.hid (heap_two w (.cells #[.int .u32 (sq : Int), .slice ax n cx, .slice bx m dx] 55) (.cells #[.int .u32 (sq : Int), .slice ay n cy, .slice b_y m dy] 55))
  go_enter Try.func37, Try.ntmps37
  go_upto_region 1 with (fail)
  generalize (w.alloc (.cells #[.int .u32 (sq : Int), .slice ax n cx, .slice bx m dx] 55)).alloc (.cells #[.int .u32 (sq : Int), .slice ay n cy, .slice b_y m dy] 55) = W at *
  obtain ⟨PB, hPB⟩ : ∃ P, P = w.heap.size + 1 := ⟨_, rfl⟩
  obtain ⟨PA, hPA⟩ : ∃ P, P = w.heap.size := ⟨_, rfl⟩
  rw [← hPB] at HPB ⊢
  rw [← hPA] at HPA ⊢
  clear hPA hPB
  have qa0 := cell_at HPA.out 0
  have qa1 := cell_at HPA.out 1
  have qa2 := cell_at HPA.out 2
  have qb0 := cell_at HPB.out 0
  have qb1 := cell_at HPB.out 1
  have qb2 := cell_at HPB.out 2
  have e0 : ((sq : Int) != (sq : Int)) = false := by simp
  have e1 : ((n : Int) != (n : Int)) = false := by simp
  have e2 : ((m : Int) != (m : Int)) = false := by simp
  go_wp2_with fail
  clear qa0 qa1 qa2 qb0 qb1 qb2
  have HQ := Lib.hid (show ∀ (wr : World), Grow W wr → (PA < wr.heap.size ∧ wr.cell? ⟨PA, 1, none⟩ = some (.slice ax n cx)) ∧ (PB < wr.heap.size ∧ wr.cell? ⟨PB, 1, none⟩ = some (.slice ay n cy)) ∧ (PA < wr.heap.size ∧ wr.cell? ⟨PA, 2, none⟩ = some (.slice bx m dx)) ∧ (PB < wr.heap.size ∧ wr.cell? ⟨PB, 2, none⟩ = some (.slice b_y m dy)) from fun wr hg => by
    have la := (Array.getElem?_eq_some_iff.1 HPA.out).1
    have lb := (Array.getElem?_eq_some_iff.1 HPB.out).1
    have sz := hg.size
    exact ⟨⟨by omega, (hg.cell (p := ⟨PA, 1, none⟩) la).trans (cell_at HPA.out 1)⟩, ⟨by omega, (hg.cell (p := ⟨PB, 1, none⟩) lb).trans (cell_at HPB.out 1)⟩, ⟨by omega, (hg.cell (p := ⟨PA, 2, none⟩) la).trans (cell_at HPA.out 2)⟩, ⟨by omega, (hg.cell (p := ⟨PB, 2, none⟩) lb).trans (cell_at HPB.out 2)⟩⟩)
  go_loopw [5] (fun t5 wr => ∃ k : Nat, t5 = .int .i64 (k : Int) ∧ k ≤ n ∧ Hid (Grow W wr)) (fun t5 _ => n - (intOf t5).toNat)
  case atStart => exact ⟨0, by go_num, by omega, Lib.hid (Grow.refl _)⟩
  case round =>
    obtain ⟨k, rfl, hkn, HW⟩ := hrel
    have q1 := (HQ.out wr HW.out).1.2
    by_cases hk : k < n
    · obtain ⟨c, hc⟩ : ∃ c, cs[k]? = some c := ⟨cs[k]'(by rw [← HN.out]; exact hk), by simp⟩
      have hrx := HCX.out.grow (Grow.trans HG0.out HW.out)
      have hry := HCY.out.grow (Grow.trans HG0.out HW.out)
      obtain ⟨ga, ka, hv, hga⟩ := hrx.open_ (by rw [← HN.out]; omega)
      rw [← HN.out] at hv
      cases hv
      obtain ⟨gb, kb, hv, hgb⟩ := hry.open_ (by rw [← HN.out]; omega)
      rw [← HN.out] at hv
      cases hv
      have HA := Lib.hid (HQ.out wr HW.out).1
      have HB := Lib.hid (HQ.out wr HW.out).2.1
      have HCL := Lib.hid (hrx.blk (List.mem_of_getElem? hc))
      have HRA := Lib.hid (And.intro hga (hrx.range hc))
      have HRB := Lib.hid (And.intro hgb (hry.range hc))
      have HE := Lib.hid (show ∀ w, (binOp .neq 40 (.agg (ccell c).toArray) (.agg (ccell c).toArray)).run Try.prog w = .ok (.bool false) w from fun w => by rw [neqC c c HCL.out HCL.out w, decide_eq_true rfl]; rfl)
      clear hc hrx hry hga hgb
      go_upto_region 6 with (fail)
      refine same15_reg6 k n PA PB ga cx gb cy c wr hk (by omega) HA HB HCL HRA HRB _ (Lib.hid rfl) HE _ _ _ _ _ _ _ _ _ _ _ _ _ _ _ _ _ _ _ _ _ _ _ _ _ _ _ _ _ _ _ _ _ _ _ _ _ _ _ _ _ _ _ _ _ _ _ _ _ _ _ _ _ _ _ _ _ _ _ _ _ _ _ _ (Lib.hid ?hsame15reg61)
      intro u37 u38 u39 u40 u41 u42 u43 u44 u45 u46 W2 hRW2
      have HG2 := Lib.hid (Grow.trans HW.out (hRW2.below (Nat.le_refl _) (by simp)))
      clear hRW2 q1 HE HA HB HRA HRB
      go_wp2
      go_roundw
      case rel => exact ⟨k + 1, by go_num, by omega, HG2⟩
      case measure => simp [intOf]; omega
    · obtain rfl : k = n := by omega
      have HWa := Lib.hid HW.out
      clear HW
      go_wp2_with fail
      go_loopw [6] (fun t6 wr => ∃ j : Nat, t6 = .int .i64 (j : Int) ∧ j ≤ m ∧ Hid (Grow W wr)) (fun t6 _ => m - (intOf t6).toNat)
      case atStart => exact ⟨0, by go_num, by omega, HWa⟩
      case round =>
        obtain ⟨j, rfl, hjm, HW⟩ := hrel
        have q2 := (HQ.out wr HW.out).2.2.1.2
        by_cases hk : j < m
        · obtain ⟨z, hz⟩ : ∃ z, rs[j]? = some z := ⟨rs[j]'(by rw [← HM.out]; exact hk), by simp⟩
          have hrx := HRX.out.grow (Grow.trans HG0.out HW.out)
          have hry := HRY.out.grow (Grow.trans HG0.out HW.out)
          obtain ⟨ga, ka, hv, hga⟩ := hrx.open_ (by rw [← HM.out]; omega)
          rw [← HM.out] at hv
          cases hv
          obtain ⟨gb, kb, hv, hgb⟩ := hry.open_ (by rw [← HM.out]; omega)
          rw [← HM.out] at hv
          cases hv
          have HA := Lib.hid (HQ.out wr HW.out).2.2.1
          have HB := Lib.hid (HQ.out wr HW.out).2.2.2
          have HRA := Lib.hid (And.intro hga (hrx.cell hz))
          have HRB := Lib.hid (And.intro hgb (hry.cell hz))
          clear hz hrx hry hga hgb
          go_upto_region 11 with (fail)
          refine same15_reg11 j m PA PB ga dx gb dy z wr hk (by omega) HA HB HRA HRB _ _ _ _ _ _ _ _ _ _ _ _ _ _ _ _ _ _ _ _ _ _ _ _ _ _ _ _ _ _ _ _ _ _ _ _ _ _ _ _ _ _ _ _ _ _ _ _ _ _ _ _ _ _ _ _ _ _ _ _ _ _ _ _ (Lib.hid ?hsame15reg112)
          intro u55 u56 u57 u58 u59 u60 u61 u62 u63 u64 W2 hRW2
          have HG2 := Lib.hid (Grow.trans HW.out (hRW2.below (Nat.le_refl _) (by simp)))
          clear hRW2 q2 HA HB HRA HRB
          go_wp2
          go_roundw
          case rel => exact ⟨j + 1, by go_num, by omega, HG2⟩
          case measure => simp [intOf]; omega
        · obtain rfl : j = m := by omega
          have HG := Lib.hid (Grow.trans HG0.out HW.out)
          go_wp2_with fail
          go_ret
          exact ⟨rfl, HG.out⟩
set_option maxRecDepth 100000 in
set_option maxHeartbeats 8000000 in
theorem sameall_ok {w : World} {va vb : Value} {xs ys : List TV} (ha : TRow w va xs) (hb : TRow w vb ys) (ht : xs.map (·.t) = ys.map (·.t)) (hl : xs.length ≤ 1000000) (hc : ∀ x ∈ xs, x.t.cs.length ≤ 1000000) : Calls Try.prog 17 #[va, vb] w fun e w' => e = .returned (.bool true) ∧ Grow w w' := by
  have HXS := Lib.hid ha
  have HYS := Lib.hid hb
  have HTT := Lib.hid ht
  have HCL := Lib.hid hc
  obtain ⟨aa, ka, hva⟩ := ha.len
  obtain ⟨ab, kb, hvb⟩ := hb.len
  have hlen : xs.length = ys.length := by have := congrArg List.length ht; simpa using this
  rw [← hlen] at hvb
  obtain ⟨n, hn⟩ : ∃ n, n = xs.length := ⟨_, rfl⟩
  rw [← hn] at hva hvb hl hlen
  subst hva hvb
  have HN := Lib.hid hn
  have HN2 := Lib.hid hlen
  clear ha hb ht hc hn hlen
  have e1 : ((n : Int) != (n : Int)) = false := by simp
  go_enter Try.func17, Try.ntmps17
  go_wp2_with fail
  go_loopw [5] (fun t5 wr => ∃ k : Nat, t5 = .int .i64 (k : Int) ∧ k ≤ n ∧ Hid (Grow w wr)) (fun t5 _ => n - (intOf t5).toNat)
  case atStart => exact ⟨0, by go_num, by omega, Lib.hid (Grow.refl _)⟩
  case round =>
    obtain ⟨k, rfl, hkn, HW⟩ := hrel
    by_cases hk : k < n
    · obtain ⟨x, hx⟩ : ∃ x, xs[k]? = some x := ⟨xs[k]'(by rw [← HN.out]; exact hk), by simp⟩
      obtain ⟨y, hy⟩ : ∃ y, ys[k]? = some y := ⟨ys[k]'(by rw [← HN2.out]; exact hk), by simp⟩
      have hxy : x.t = y.t := by
        have := congrArg (·[k]?) HTT.out
        simp only [List.getElem?_map, hx, hy, Option.map_some, Option.some.injEq] at this
        exact this
      have hX := HXS.out.grow HW.out
      have hY := HYS.out.grow HW.out
      obtain ⟨ga, ka', ax, nx, cx, bx, mx, dx, hv, qa0, qa1, qa2, hvx, hnx, hwx, hmx, _⟩ := hX.elem hx
      rw [← HN.out] at hv
      cases hv
      obtain ⟨gb, kb', ay, ny, cy, by_, my, dy, hv, qb0, qb1, qb2, hvy, hny, hwy, hmy, _⟩ := hY.elem hy
      rw [← HN2.out] at hv
      cases hv
      have HS0 := Lib.hid (show ∀ w', Grow wr w' → Calls Try.prog 37 #[.agg (tcell x).toArray, .agg (tcell y).toArray] w' fun e w'' => e = .returned (.bool true) ∧ Grow w' w'' from fun w' hg => same15_ok ((hX.at_ x (List.mem_of_getElem? hx)).grow hg) ((hY.at_ y (List.mem_of_getElem? hy)).grow hg) hxy (HCL.out x (List.mem_of_getElem? hx)))
      have HS := HS0
      unfold tcell at HS
      rw [hvx, hwx, hvy, hwy, ← hxy] at HS
      rw [hvx] at qa1
      rw [hwx] at qa2
      rw [hvy] at qb1
      rw [hwy] at qb2
      rw [← hxy] at qb0
      obtain ⟨s, hs⟩ : ∃ s, s = x.t.seq := ⟨_, rfl⟩
      rw [← hs] at HS qa0 qb0
      have HA0 := Lib.hid (And.intro (World.block_lt_of_cell? _ _ qa0) qa0)
      have HA1 := Lib.hid (And.intro (World.block_lt_of_cell? _ _ qa1) qa1)
      have HA2 := Lib.hid (And.intro (World.block_lt_of_cell? _ _ qa2) qa2)
      have HB0 := Lib.hid (And.intro (World.block_lt_of_cell? _ _ qb0) qb0)
      have HB1 := Lib.hid (And.intro (World.block_lt_of_cell? _ _ qb1) qb1)
      have HB2 := Lib.hid (And.intro (World.block_lt_of_cell? _ _ qb2) qb2)
      clear hx hy hxy hX hY qa0 qa1 qa2 qb0 qb1 qb2 hvx hnx hwx hmx hvy hny hwy hmy HS0 hs
      go_upto_region 6 with (fail)
      refine sameall_reg6 k n ga ka gb kb s nx cx mx dx ny cy my dy ax bx ay by_ wr hk (by omega) HA0 HA1 HA2 HB0 HB1 HB2 HS _ _ _ _ _ _ _ _ _ _ _ _ _ _ _ _ _ _ _ _ _ _ _ _ _ (Lib.hid ?hsameallreg63)
      intro u17 u18 u19 u20 u21 u22 u23 u24 u25 W2 hRW2
      have HG2 := Lib.hid (Grow.trans HW.out (hRW2.below (Nat.le_refl _) (by simp)))
      clear hRW2 HS HA0 HA1 HA2 HB0 HB1 HB2
      go_wp2
      go_roundw
      case rel => exact ⟨k + 1, by go_num, by omega, HG2⟩
      case measure => simp [intOf]; omega
    · obtain rfl : k = n := by omega
      have HG := Lib.hid HW.out
      go_wp2_with fail
      go_ret
      exact ⟨rfl, HG.out⟩
#print axioms sameall_ok
end Go.Proofs.Ytlhhbkpocpnebaa
