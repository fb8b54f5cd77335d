/- The law RevokeDown: the walk. -/
import Derived.Test.YtbpejjgjjjmlkaaR12
import Derived.Test.YtbpejjgjjjmlkaaR8
set_option linter.unusedVariables false
set_option linter.unusedSimpArgs false
namespace Go.Proofs.Ytbpejjgjjjmlkaa
open Go.RowKit Go.Maps

/-- acts that came in: kind, block, number -/
abbrev QP := Int × Int × Nat
def ActsIn (w : World) (v : Value) (l : List QP) : Prop := ∃ a cap, v = .slice a l.length cap ∧ ∀ i p, l[i]? = some p → ∃ y : Addr, a = some y ∧ y.block < w.heap.size ∧ w.cell? (y.add (i * 3)) = some (.int .u8 p.1) ∧ w.cell? ((y.add (i * 3)).add 1) = some (.int .i64 p.2.1) ∧ w.cell? ((y.add (i * 3)).add 2) = some (.int .u32 (p.2.2 : Int)) ∧ RcOk (p.2.1, p.2.2) ∧ 0 ≤ p.1 ∧ p.1 < 256
structure WInv (w : World) (B bm k : Nat) (wr : World) : Prop where
  tab : ∃ m, Tab wr B bm k m ∧ m.length ≤ k
  bl : w.heap.size ≤ B
  bml : w.heap.size ≤ bm
  grow : Grow w wr
theorem WInv.step {w : World} {B bm k : Nat} {wr wz : World} (h : WInv w B bm k wr) (ht : Touch [bm] wr wz) (hT : ∃ m, Tab wz B bm (k + 1) m ∧ m.length ≤ k + 1) : WInv w B bm (k + 1) wz :=
  { tab := hT, bl := h.bl, bml := h.bml, grow := Below.trans h.grow (ht.below h.grow.size (by simpa using h.bml)) }
theorem doAdd {B bm k : Nat} {m : List Rc} (hk : k ≤ 1000000) (hl : m.length ≤ k) (b : Int) (s : Nat) (hok : RcOk (b, s)) : ∀ wq, Tab wq B bm k m → Calls Try.prog 20 #[.pointer (some ⟨B, 0, none⟩), .int .i64 b, .int .u32 (s : Int)] wq fun e w' => (∃ v, e = .returned v) ∧ (∃ m, Tab w' B bm (k + 1) m ∧ m.length ≤ k + 1) ∧ Touch [bm] wq w' := by
  intro wq ht
  refine ((doR (p := (b, s, false)) hk hok).2 rfl wq ht).mono ?_
  rintro e w' ⟨h1, h2, h3⟩
  exact ⟨h1, ⟨_, h2, stepR_len hl _⟩, h3⟩
theorem doCancel {B bm k : Nat} {m : List Rc} (hk : k ≤ 1000000) (hl : m.length ≤ k) (b : Int) (s : Nat) (hok : RcOk (b, s)) : ∀ wq, Tab wq B bm k m → Calls Try.prog 21 #[.pointer (some ⟨B, 0, none⟩), .int .i64 b, .int .u32 (s : Int)] wq fun e w' => (∃ v, e = .returned v) ∧ (∃ m, Tab w' B bm (k + 1) m ∧ m.length ≤ k + 1) ∧ Touch [bm] wq w' := by
  intro wq ht
  refine ((doR (p := (b, s, true)) hk hok).1 rfl wq ht).mono ?_
  rintro e w' ⟨h1, h2, h3⟩
  exact ⟨h1, ⟨_, h2, stepR_len hl _⟩, h3⟩
theorem dropR_len2 (m : List Rc) (s : Nat) : (dropR m s).length ≤ m.length := List.length_filter_le _ _
theorem revoked_mono {m : List Rc} {b : Int} {s t : Nat} (h : s ≤ t) (hr : revoked m b t = true) : revoked m b s = true := by
  unfold revoked at *
  rw [List.any_eq_true] at *
  obtain ⟨r, h1, h2⟩ := hr
  have := of_decide_eq_true h2
  exact ⟨r, h1, decide_eq_true ⟨this.1, by omega⟩⟩
theorem revoked_drop (m : List Rc) (b : Int) (s : Nat) (h : 0 < s) : revoked (dropR m (s - 1)) b s = revoked m b s := by
  rw [Bool.eq_iff_iff]
  unfold revoked dropR
  simp only [List.any_eq_true, List.mem_filter, decide_eq_true_eq]
  constructor
  · rintro ⟨r, ⟨h1, _⟩, h2⟩
    exact ⟨r, h1, h2⟩
  · rintro ⟨r, h1, h2⟩
    exact ⟨r, ⟨h1, by omega⟩, h2⟩
set_option maxRecDepth 100000 in
set_option maxHeartbeats 4000000 in
theorem down_walk {w : World} {v : Value} {l : List QP} (hp : ActsIn w v l) (hl : l.length ≤ 9223372036854775807) (b : Int) (s : Nat) (hs : s < 4294967296) (t : Nat) (ht : t < 4294967296) :
    Calls Try.prog 7 #[v, .int .i64 b, .int .u32 (s : Int), .int .u32 (t : Int)] w fun e w' => e = .returned (.bool true) ∧ Below w.heap.size w w' := by
  obtain ⟨ad, cap, rfl, hc⟩ := hp
  have HP := Lib.hid hc
  obtain ⟨L, hL⟩ : ∃ L, L = l.length := ⟨_, rfl⟩
  rw [← hL] at hl ⊢
  have HL := Lib.hid hL
  clear hc hL
  by_cases h3 : 200 < L
  · have d0 : decide ((200 : Int) < (L : Int)) = true := by simp; omega
    go_enter Try.func7, Try.ntmps7
    go_wp2_with fail
    refine (awake_ok _).mono ?_
    intro e w1 hpost
    obtain ⟨he, hg⟩ := hpost
    subst he
    have HG := Lib.hid hg
    clear hg
    go_wp2_with fail
    go_ret
    exact ⟨rfl, HG.out⟩
  · have d0 : decide ((200 : Int) < (L : Int)) = false := by simp; omega
    go_enter Try.func7, Try.ntmps7
    go_wp2_with fail
    refine (new_ok _).mono ?_
    intro e w1 hpost
    obtain ⟨B, bm, he, ht1, hg, h1, h2⟩ := hpost
    subst he
    have HI := Lib.hid (show WInv w B bm 0 w1 from { tab := ⟨[], ht1, Nat.le_refl _⟩, bl := h1, bml := h2, grow := hg })
    clear ht1 hg h1 h2
    go_wp2_with fail
    go_loopw [10] (fun t10 wr => ∃ (k : Nat), k ≤ L ∧ t10 = .int .i64 (k : Int) ∧ Hid (WInv w B bm k wr)) (fun t10 _ => L - (intOf t10).toNat)
    case atStart => exact ⟨0, by omega, rfl, HI⟩
    case round =>
      obtain ⟨k, hk, rfl, HI⟩ := hrel
      by_cases hlt : k < L
      · have hkl : k < l.length := by rw [← HL.out]; exact hlt
        obtain ⟨p, hpk⟩ : ∃ p, l[k]? = some p := ⟨l[k], by simp [hkl]⟩
        obtain ⟨y, rfl, hyb, hc0, hc1, hc2, hok, hq0, hq1⟩ := HP.out k p hpk
        obtain ⟨q, pb, ps⟩ := p
        obtain ⟨m, hm, hml⟩ := HI.out.tab
        have HA := Lib.hid (doAdd (B := B) (bm := bm) (m := m) (show k ≤ 1000000 by omega) hml pb ps hok)
        have HCN := Lib.hid (doCancel (B := B) (bm := bm) (m := m) (show k ≤ 1000000 by omega) hml pb ps hok)
        have HT := Lib.hid hm
        have HML := Lib.hid hml
        have hI := HI.out
        have x0 := (hI.grow.cell (p := y.add (k * 3)) (by rw [add_block]; exact hyb)).trans hc0
        have HC1 := Lib.hid ((hI.grow.cell (p := (y.add (k * 3)).add 1) (by rw [add_block, add_block]; exact hyb)).trans hc1)
        have HC2 := Lib.hid ((hI.grow.cell (p := (y.add (k * 3)).add 2) (by rw [add_block, add_block]; exact hyb)).trans hc2)
        have x2 : wr.cell? ⟨(y.add (k * 3)).block, (y.add (k * 3)).off + 2, none⟩ = some (.int .u32 (ps : Int)) := HC2.out
        have HYL := Lib.hid (Nat.lt_of_lt_of_le hyb hI.grow.size)
        have HYM := Lib.hid (show y.block ∉ [bm] by have := hI.bml; simp; omega)
        have hps : ps < 4294967296 := hok.2.2
        have b0 : (0 : Int) ≤ (k : Int) := by omega
        have b1 : (k : Int) < (L : Int) := by omega
        dsimp only at x0 hq0 hq1
        obtain ⟨r, hr⟩ : ∃ r : Int, q.tmod 4 = r := ⟨_, rfl⟩
        clear hI hpk hc0 hc1 hc2 hyb hkl hm hml hok
        by_cases hr2 : r = 2
        · subst hr2
          go_upto_region 12 with (fail)
          refine down12_reg B bm k m (fun wz => ∃ m, Tab wz B bm (k + 1) m ∧ m.length ≤ k + 1) y L cap k ps pb wr HT HC1 HC2 HYL HYM hlt HCN _ _ _ _ _ _ _ _ _ _ _ _ _ _ _ _ _ _ _ _ _ _ _ _ _ _ _ _ _ _ _ _ _ _ _ _ _ _ _ _ _ _ _ _ _ _ _ _ _ _ _ _ _ _ _ _ _ _ _ _ _ _ _ _ _ _ _ _ _ _ _ _ _ _ _ _ _ _ _ _ _ _ _ _ _ _ _ _ _ _ _ _ _ _ _ _ _ _ _ _ _ _ _ _ _ _ _ _ _ _ _ _ _ _ _ _ _ _ _ _ _ _ _ _ _ _ _ _ _ _ _ _ (Lib.hid ?_)
          intro u48 u49 u50 u51 u52 u53 u54 u55 u56 u57 u58 u59 wz ht2 hT2
          have HI2 := Lib.hid (HI.out.step ht2 hT2)
          clear ht2 hT2 x0 x2 HI HT
          go_wp2_with fail
          go_roundw
          case rel => exact ⟨k + 1, by omega, by go_num, HI2⟩
          case measure => simp [intOf]; omega
        · have e2 : (r == 2) = false := by simpa using hr2
          by_cases hr3 : r = 3
          · subst hr3
            go_wp2_with fail
            refine (drop_ok HT.out ps hps).mono ?_
            intro e wz hpost
            obtain ⟨⟨ve, he⟩, hT2, ht2⟩ := hpost
            subst he
            have HI2 := Lib.hid (HI.out.step ht2 ⟨_, hT2.mono (by omega), by have := dropR_len2 m ps; have := HML.out; omega⟩)
            clear ht2 hT2 x0 x2 HI HT
            go_wp2_with fail
            go_roundw
            case rel => exact ⟨k + 1, by omega, by go_num, HI2⟩
            case measure => simp [intOf]; omega
          · have e3 : (r == 3) = false := by simpa using hr3
            go_upto_region 10 with (fail)
            refine down10_reg B bm k m (fun wz => ∃ m, Tab wz B bm (k + 1) m ∧ m.length ≤ k + 1) y L cap k ps pb wr HT HC1 HC2 HYL HYM hlt HA _ _ _ _ _ _ _ _ _ _ _ _ _ _ _ _ _ _ _ _ _ _ _ _ _ _ _ _ _ _ _ _ _ _ _ _ _ _ _ _ _ _ _ _ _ _ _ _ _ _ _ _ _ _ _ _ _ _ _ _ _ _ _ _ _ _ _ _ _ _ _ _ _ _ _ _ _ _ _ _ _ _ _ _ _ _ _ _ _ _ _ _ _ _ _ _ _ _ _ _ _ _ _ _ _ _ _ _ _ _ _ _ _ _ _ _ _ _ _ _ _ _ _ _ _ _ _ _ _ _ _ _ (Lib.hid ?_)
            intro u34 u35 u36 u37 u38 u39 u40 u41 u42 u43 u44 u45 wz ht2 hT2
            have HI2 := Lib.hid (HI.out.step ht2 hT2)
            clear ht2 hT2 x0 x2 HI HT
            go_wp2_with fail
            go_roundw
            case rel => exact ⟨k + 1, by omega, by go_num, HI2⟩
            case measure => simp [intOf]; omega
      · obtain rfl : k = L := by omega
        obtain ⟨m, hm, hml⟩ := HI.out.tab
        have HT := Lib.hid hm
        have HG := Lib.hid HI.out.grow
        have HBM := Lib.hid HI.out.bml
        clear hm hml HI
        by_cases hsw : s < t
        · have esw : decide ((s : Int) < (t : Int)) = true := by simp; omega
          obtain ⟨was, hwas⟩ : ∃ was, revoked m b t = was := ⟨_, rfl⟩
          have HWAS := Lib.hid hwas
          clear hwas
          by_cases hz : 0 < t
          · have ez : decide ((0 : Int) < (t : Int)) = true := by simp; omega
            go_wp2_with fail
            refine (revoked_ok HT.out b t ht).mono ?_
            intro e q1 hpost
            obtain ⟨he, hg⟩ := hpost
            rw [HWAS.out] at he
            subst he
            have HT1 := Lib.hid (HT.out.kept (Touch.of_below (S := []) hg) (by simp) (by simp))
            have HG1 := Lib.hid (Grow.trans HG.out hg)
            clear hg
            cases was with
            | true =>
              go_wp2_with fail
              refine (revoked_ok HT1.out b s hs).mono ?_
              intro e q2 hpost
              obtain ⟨he, hg⟩ := hpost
              rw [revoked_mono (by omega) HWAS.out] at he
              subst he
              have HT2 := Lib.hid (HT1.out.kept (Touch.of_below (S := []) hg) (by simp) (by simp))
              have HG2 := Lib.hid (Grow.trans HG1.out hg)
              clear hg
              go_wp2_with fail
              refine (last_ok HT2.out b).mono ?_
              intro e q3 hpost
              obtain ⟨last, ok, he, hl32, hla, hg⟩ := hpost
              subst he
              have HLA := Lib.hid hla
              have HT3 := Lib.hid (HT2.out.kept (Touch.of_below (S := []) hg) (by simp) (by simp))
              have HG3 := Lib.hid (Grow.trans HG2.out hg)
              clear hg hla
              cases ok with
              | true =>
                go_wp2_with fail
                refine (revoked_ok HT3.out b last hl32).mono ?_
                intro e q4 hpost
                obtain ⟨he, hg⟩ := hpost
                rw [show revoked m b last = true by rw [← HLA.out.revoked last]; simp] at he
                subst he
                have HT4 := Lib.hid (HT3.out.kept (Touch.of_below (S := []) hg) (by simp) (by simp))
                have HG4 := Lib.hid (Grow.trans HG3.out hg)
                clear hg
                by_cases hmx : last < 4294967295
                · have emx : decide ((last : Int) < 4294967295) = true := by simp; omega
                  go_wp2_with fail
                  rw [show (last : Int) + 1 = ((last + 1 : Nat) : Int) by omega]
                  refine (revoked_ok HT4.out b (last + 1) (by omega)).mono ?_
                  intro e q5 hpost
                  obtain ⟨he, hg⟩ := hpost
                  rw [show revoked m b (last + 1) = false by rw [← HLA.out.revoked (last + 1)]; simp] at he
                  subst he
                  have HT5 := Lib.hid (HT4.out.kept (Touch.of_below (S := []) hg) (by simp) (by simp))
                  have HG5 := Lib.hid (Grow.trans HG4.out hg)
                  clear hg
                  go_wp2_with fail
                  rw [show (t : Int) - 1 = ((t - 1 : Nat) : Int) by omega]
                  refine (drop_ok HT5.out (t - 1) (by omega)).mono ?_
                  intro e q7 hpost
                  obtain ⟨⟨ve, he⟩, hT7, ht7⟩ := hpost
                  subst he
                  have HT7 := Lib.hid hT7
                  have HG7 := Lib.hid (show Grow w q7 from Below.trans HG5.out (ht7.below HG5.out.size (by simpa using HBM.out)))
                  clear hT7 ht7
                  go_wp2_with fail
                  refine (revoked_ok HT7.out b t ht).mono ?_
                  intro e q8 hpost
                  obtain ⟨he, hg⟩ := hpost
                  rw [revoked_drop m b t hz, HWAS.out] at he
                  subst he
                  have HG8 := Lib.hid (Grow.trans HG7.out hg)
                  clear hg
                  go_wp2_with fail
                  refine (awake_ok _).mono ?_
                  intro e q9 hpost
                  obtain ⟨he, hg⟩ := hpost
                  subst he
                  have HG9 := Lib.hid (Grow.trans HG8.out hg)
                  clear hg
                  go_wp2_with fail
                  go_ret
                  exact ⟨rfl, HG9.out⟩
                · have emx : decide ((last : Int) < 4294967295) = false := by simp; omega
                  go_wp2_with fail
                  rw [show (t : Int) - 1 = ((t - 1 : Nat) : Int) by omega]
                  refine (drop_ok HT4.out (t - 1) (by omega)).mono ?_
                  intro e q7 hpost
                  obtain ⟨⟨ve, he⟩, hT7, ht7⟩ := hpost
                  subst he
                  have HT7 := Lib.hid hT7
                  have HG7 := Lib.hid (show Grow w q7 from Below.trans HG4.out (ht7.below HG4.out.size (by simpa using HBM.out)))
                  clear hT7 ht7
                  go_wp2_with fail
                  refine (revoked_ok HT7.out b t ht).mono ?_
                  intro e q8 hpost
                  obtain ⟨he, hg⟩ := hpost
                  rw [revoked_drop m b t hz, HWAS.out] at he
                  subst he
                  have HG8 := Lib.hid (Grow.trans HG7.out hg)
                  clear hg
                  go_wp2_with fail
                  refine (awake_ok _).mono ?_
                  intro e q9 hpost
                  obtain ⟨he, hg⟩ := hpost
                  subst he
                  have HG9 := Lib.hid (Grow.trans HG8.out hg)
                  clear hg
                  go_wp2_with fail
                  go_ret
                  exact ⟨rfl, HG9.out⟩
              | false =>
                go_wp2_with fail
                refine (revoked_ok HT3.out b 0 (by omega)).mono ?_
                intro e q4 hpost
                obtain ⟨he, hg⟩ := hpost
                rw [show revoked m b 0 = false by rw [← HLA.out.revoked 0]; rfl] at he
                subst he
                have HT4 := Lib.hid (HT3.out.kept (Touch.of_below (S := []) hg) (by simp) (by simp))
                have HG4 := Lib.hid (Grow.trans HG3.out hg)
                clear hg
                go_wp2_with fail
                rw [show (t : Int) - 1 = ((t - 1 : Nat) : Int) by omega]
                refine (drop_ok HT4.out (t - 1) (by omega)).mono ?_
                intro e q7 hpost
                obtain ⟨⟨ve, he⟩, hT7, ht7⟩ := hpost
                subst he
                have HT7 := Lib.hid hT7
                have HG7 := Lib.hid (show Grow w q7 from Below.trans HG4.out (ht7.below HG4.out.size (by simpa using HBM.out)))
                clear hT7 ht7
                go_wp2_with fail
                refine (revoked_ok HT7.out b t ht).mono ?_
                intro e q8 hpost
                obtain ⟨he, hg⟩ := hpost
                rw [revoked_drop m b t hz, HWAS.out] at he
                subst he
                have HG8 := Lib.hid (Grow.trans HG7.out hg)
                clear hg
                go_wp2_with fail
                refine (awake_ok _).mono ?_
                intro e q9 hpost
                obtain ⟨he, hg⟩ := hpost
                subst he
                have HG9 := Lib.hid (Grow.trans HG8.out hg)
                clear hg
                go_wp2_with fail
                go_ret
                exact ⟨rfl, HG9.out⟩
            | false =>
              go_wp2_with fail
              refine (last_ok HT1.out b).mono ?_
              intro e q3 hpost
              obtain ⟨last, ok, he, hl32, hla, hg⟩ := hpost
              subst he
              have HLA := Lib.hid hla
              have HT3 := Lib.hid (HT1.out.kept (Touch.of_below (S := []) hg) (by simp) (by simp))
              have HG3 := Lib.hid (Grow.trans HG1.out hg)
              clear hg hla
              cases ok with
              | true =>
                go_wp2_with fail
                refine (revoked_ok HT3.out b last hl32).mono ?_
                intro e q4 hpost
                obtain ⟨he, hg⟩ := hpost
                rw [show revoked m b last = true by rw [← HLA.out.revoked last]; simp] at he
                subst he
                have HT4 := Lib.hid (HT3.out.kept (Touch.of_below (S := []) hg) (by simp) (by simp))
                have HG4 := Lib.hid (Grow.trans HG3.out hg)
                clear hg
                by_cases hmx : last < 4294967295
                · have emx : decide ((last : Int) < 4294967295) = true := by simp; omega
                  go_wp2_with fail
                  rw [show (last : Int) + 1 = ((last + 1 : Nat) : Int) by omega]
                  refine (revoked_ok HT4.out b (last + 1) (by omega)).mono ?_
                  intro e q5 hpost
                  obtain ⟨he, hg⟩ := hpost
                  rw [show revoked m b (last + 1) = false by rw [← HLA.out.revoked (last + 1)]; simp] at he
                  subst he
                  have HT5 := Lib.hid (HT4.out.kept (Touch.of_below (S := []) hg) (by simp) (by simp))
                  have HG5 := Lib.hid (Grow.trans HG4.out hg)
                  clear hg
                  go_wp2_with fail
                  rw [show (t : Int) - 1 = ((t - 1 : Nat) : Int) by omega]
                  refine (drop_ok HT5.out (t - 1) (by omega)).mono ?_
                  intro e q7 hpost
                  obtain ⟨⟨ve, he⟩, hT7, ht7⟩ := hpost
                  subst he
                  have HT7 := Lib.hid hT7
                  have HG7 := Lib.hid (show Grow w q7 from Below.trans HG5.out (ht7.below HG5.out.size (by simpa using HBM.out)))
                  clear hT7 ht7
                  go_wp2_with fail
                  refine (revoked_ok HT7.out b t ht).mono ?_
                  intro e q8 hpost
                  obtain ⟨he, hg⟩ := hpost
                  rw [revoked_drop m b t hz, HWAS.out] at he
                  subst he
                  have HG8 := Lib.hid (Grow.trans HG7.out hg)
                  clear hg
                  go_wp2_with fail
                  refine (awake_ok _).mono ?_
                  intro e q9 hpost
                  obtain ⟨he, hg⟩ := hpost
                  subst he
                  have HG9 := Lib.hid (Grow.trans HG8.out hg)
                  clear hg
                  go_wp2_with fail
                  go_ret
                  exact ⟨rfl, HG9.out⟩
                · have emx : decide ((last : Int) < 4294967295) = false := by simp; omega
                  go_wp2_with fail
                  rw [show (t : Int) - 1 = ((t - 1 : Nat) : Int) by omega]
                  refine (drop_ok HT4.out (t - 1) (by omega)).mono ?_
                  intro e q7 hpost
                  obtain ⟨⟨ve, he⟩, hT7, ht7⟩ := hpost
                  subst he
                  have HT7 := Lib.hid hT7
                  have HG7 := Lib.hid (show Grow w q7 from Below.trans HG4.out (ht7.below HG4.out.size (by simpa using HBM.out)))
                  clear hT7 ht7
                  go_wp2_with fail
                  refine (revoked_ok HT7.out b t ht).mono ?_
                  intro e q8 hpost
                  obtain ⟨he, hg⟩ := hpost
                  rw [revoked_drop m b t hz, HWAS.out] at he
                  subst he
                  have HG8 := Lib.hid (Grow.trans HG7.out hg)
                  clear hg
                  go_wp2_with fail
                  refine (awake_ok _).mono ?_
                  intro e q9 hpost
                  obtain ⟨he, hg⟩ := hpost
                  subst he
                  have HG9 := Lib.hid (Grow.trans HG8.out hg)
                  clear hg
                  go_wp2_with fail
                  go_ret
                  exact ⟨rfl, HG9.out⟩
              | false =>
                go_wp2_with fail
                refine (revoked_ok HT3.out b 0 (by omega)).mono ?_
                intro e q4 hpost
                obtain ⟨he, hg⟩ := hpost
                rw [show revoked m b 0 = false by rw [← HLA.out.revoked 0]; rfl] at he
                subst he
                have HT4 := Lib.hid (HT3.out.kept (Touch.of_below (S := []) hg) (by simp) (by simp))
                have HG4 := Lib.hid (Grow.trans HG3.out hg)
                clear hg
                go_wp2_with fail
                rw [show (t : Int) - 1 = ((t - 1 : Nat) : Int) by omega]
                refine (drop_ok HT4.out (t - 1) (by omega)).mono ?_
                intro e q7 hpost
                obtain ⟨⟨ve, he⟩, hT7, ht7⟩ := hpost
                subst he
                have HT7 := Lib.hid hT7
                have HG7 := Lib.hid (show Grow w q7 from Below.trans HG4.out (ht7.below HG4.out.size (by simpa using HBM.out)))
                clear hT7 ht7
                go_wp2_with fail
                refine (revoked_ok HT7.out b t ht).mono ?_
                intro e q8 hpost
                obtain ⟨he, hg⟩ := hpost
                rw [revoked_drop m b t hz, HWAS.out] at he
                subst he
                have HG8 := Lib.hid (Grow.trans HG7.out hg)
                clear hg
                go_wp2_with fail
                refine (awake_ok _).mono ?_
                intro e q9 hpost
                obtain ⟨he, hg⟩ := hpost
                subst he
                have HG9 := Lib.hid (Grow.trans HG8.out hg)
                clear hg
                go_wp2_with fail
                go_ret
                exact ⟨rfl, HG9.out⟩
          · have ez : decide ((0 : Int) < (t : Int)) = false := by simp; omega
            go_wp2_with fail
            refine (revoked_ok HT.out b t ht).mono ?_
            intro e q1 hpost
            obtain ⟨he, hg⟩ := hpost
            rw [HWAS.out] at he
            subst he
            have HT1 := Lib.hid (HT.out.kept (Touch.of_below (S := []) hg) (by simp) (by simp))
            have HG1 := Lib.hid (Grow.trans HG.out hg)
            clear hg
            cases was with
            | true =>
              go_wp2_with fail
              refine (revoked_ok HT1.out b s hs).mono ?_
              intro e q2 hpost
              obtain ⟨he, hg⟩ := hpost
              rw [revoked_mono (by omega) HWAS.out] at he
              subst he
              have HT2 := Lib.hid (HT1.out.kept (Touch.of_below (S := []) hg) (by simp) (by simp))
              have HG2 := Lib.hid (Grow.trans HG1.out hg)
              clear hg
              go_wp2_with fail
              refine (last_ok HT2.out b).mono ?_
              intro e q3 hpost
              obtain ⟨last, ok, he, hl32, hla, hg⟩ := hpost
              subst he
              have HLA := Lib.hid hla
              have HT3 := Lib.hid (HT2.out.kept (Touch.of_below (S := []) hg) (by simp) (by simp))
              have HG3 := Lib.hid (Grow.trans HG2.out hg)
              clear hg hla
              cases ok with
              | true =>
                go_wp2_with fail
                refine (revoked_ok HT3.out b last hl32).mono ?_
                intro e q4 hpost
                obtain ⟨he, hg⟩ := hpost
                rw [show revoked m b last = true by rw [← HLA.out.revoked last]; simp] at he
                subst he
                have HT4 := Lib.hid (HT3.out.kept (Touch.of_below (S := []) hg) (by simp) (by simp))
                have HG4 := Lib.hid (Grow.trans HG3.out hg)
                clear hg
                by_cases hmx : last < 4294967295
                · have emx : decide ((last : Int) < 4294967295) = true := by simp; omega
                  go_wp2_with fail
                  rw [show (last : Int) + 1 = ((last + 1 : Nat) : Int) by omega]
                  refine (revoked_ok HT4.out b (last + 1) (by omega)).mono ?_
                  intro e q5 hpost
                  obtain ⟨he, hg⟩ := hpost
                  rw [show revoked m b (last + 1) = false by rw [← HLA.out.revoked (last + 1)]; simp] at he
                  subst he
                  have HT5 := Lib.hid (HT4.out.kept (Touch.of_below (S := []) hg) (by simp) (by simp))
                  have HG5 := Lib.hid (Grow.trans HG4.out hg)
                  clear hg
                  go_wp2_with fail
                  refine (awake_ok _).mono ?_
                  intro e q9 hpost
                  obtain ⟨he, hg⟩ := hpost
                  subst he
                  have HG9 := Lib.hid (Grow.trans HG5.out hg)
                  clear hg
                  go_wp2_with fail
                  go_ret
                  exact ⟨rfl, HG9.out⟩
                · have emx : decide ((last : Int) < 4294967295) = false := by simp; omega
                  go_wp2_with fail
                  refine (awake_ok _).mono ?_
                  intro e q9 hpost
                  obtain ⟨he, hg⟩ := hpost
                  subst he
                  have HG9 := Lib.hid (Grow.trans HG4.out hg)
                  clear hg
                  go_wp2_with fail
                  go_ret
                  exact ⟨rfl, HG9.out⟩
              | false =>
                go_wp2_with fail
                refine (revoked_ok HT3.out b 0 (by omega)).mono ?_
                intro e q4 hpost
                obtain ⟨he, hg⟩ := hpost
                rw [show revoked m b 0 = false by rw [← HLA.out.revoked 0]; rfl] at he
                subst he
                have HT4 := Lib.hid (HT3.out.kept (Touch.of_below (S := []) hg) (by simp) (by simp))
                have HG4 := Lib.hid (Grow.trans HG3.out hg)
                clear hg
                go_wp2_with fail
                refine (awake_ok _).mono ?_
                intro e q9 hpost
                obtain ⟨he, hg⟩ := hpost
                subst he
                have HG9 := Lib.hid (Grow.trans HG4.out hg)
                clear hg
                go_wp2_with fail
                go_ret
                exact ⟨rfl, HG9.out⟩
            | false =>
              go_wp2_with fail
              refine (last_ok HT1.out b).mono ?_
              intro e q3 hpost
              obtain ⟨last, ok, he, hl32, hla, hg⟩ := hpost
              subst he
              have HLA := Lib.hid hla
              have HT3 := Lib.hid (HT1.out.kept (Touch.of_below (S := []) hg) (by simp) (by simp))
              have HG3 := Lib.hid (Grow.trans HG1.out hg)
              clear hg hla
              cases ok with
              | true =>
                go_wp2_with fail
                refine (revoked_ok HT3.out b last hl32).mono ?_
                intro e q4 hpost
                obtain ⟨he, hg⟩ := hpost
                rw [show revoked m b last = true by rw [← HLA.out.revoked last]; simp] at he
                subst he
                have HT4 := Lib.hid (HT3.out.kept (Touch.of_below (S := []) hg) (by simp) (by simp))
                have HG4 := Lib.hid (Grow.trans HG3.out hg)
                clear hg
                by_cases hmx : last < 4294967295
                · have emx : decide ((last : Int) < 4294967295) = true := by simp; omega
                  go_wp2_with fail
                  rw [show (last : Int) + 1 = ((last + 1 : Nat) : Int) by omega]
                  refine (revoked_ok HT4.out b (last + 1) (by omega)).mono ?_
                  intro e q5 hpost
                  obtain ⟨he, hg⟩ := hpost
                  rw [show revoked m b (last + 1) = false by rw [← HLA.out.revoked (last + 1)]; simp] at he
                  subst he
                  have HT5 := Lib.hid (HT4.out.kept (Touch.of_below (S := []) hg) (by simp) (by simp))
                  have HG5 := Lib.hid (Grow.trans HG4.out hg)
                  clear hg
                  go_wp2_with fail
                  refine (awake_ok _).mono ?_
                  intro e q9 hpost
                  obtain ⟨he, hg⟩ := hpost
                  subst he
                  have HG9 := Lib.hid (Grow.trans HG5.out hg)
                  clear hg
                  go_wp2_with fail
                  go_ret
                  exact ⟨rfl, HG9.out⟩
                · have emx : decide ((last : Int) < 4294967295) = false := by simp; omega
                  go_wp2_with fail
                  refine (awake_ok _).mono ?_
                  intro e q9 hpost
                  obtain ⟨he, hg⟩ := hpost
                  subst he
                  have HG9 := Lib.hid (Grow.trans HG4.out hg)
                  clear hg
                  go_wp2_with fail
                  go_ret
                  exact ⟨rfl, HG9.out⟩
              | false =>
                go_wp2_with fail
                refine (revoked_ok HT3.out b 0 (by omega)).mono ?_
                intro e q4 hpost
                obtain ⟨he, hg⟩ := hpost
                rw [show revoked m b 0 = false by rw [← HLA.out.revoked 0]; rfl] at he
                subst he
                have HT4 := Lib.hid (HT3.out.kept (Touch.of_below (S := []) hg) (by simp) (by simp))
                have HG4 := Lib.hid (Grow.trans HG3.out hg)
                clear hg
                go_wp2_with fail
                refine (awake_ok _).mono ?_
                intro e q9 hpost
                obtain ⟨he, hg⟩ := hpost
                subst he
                have HG9 := Lib.hid (Grow.trans HG4.out hg)
                clear hg
                go_wp2_with fail
                go_ret
                exact ⟨rfl, HG9.out⟩
        · have esw : decide ((s : Int) < (t : Int)) = false := by simp; omega
          obtain ⟨was, hwas⟩ : ∃ was, revoked m b s = was := ⟨_, rfl⟩
          have HWAS := Lib.hid hwas
          clear hwas
          by_cases hz : 0 < s
          · have ez : decide ((0 : Int) < (s : Int)) = true := by simp; omega
            go_wp2_with fail
            refine (revoked_ok HT.out b s hs).mono ?_
            intro e q1 hpost
            obtain ⟨he, hg⟩ := hpost
            rw [HWAS.out] at he
            subst he
            have HT1 := Lib.hid (HT.out.kept (Touch.of_below (S := []) hg) (by simp) (by simp))
            have HG1 := Lib.hid (Grow.trans HG.out hg)
            clear hg
            cases was with
            | true =>
              go_wp2_with fail
              refine (revoked_ok HT1.out b t ht).mono ?_
              intro e q2 hpost
              obtain ⟨he, hg⟩ := hpost
              rw [revoked_mono (by omega) HWAS.out] at he
              subst he
              have HT2 := Lib.hid (HT1.out.kept (Touch.of_below (S := []) hg) (by simp) (by simp))
              have HG2 := Lib.hid (Grow.trans HG1.out hg)
              clear hg
              go_wp2_with fail
              refine (last_ok HT2.out b).mono ?_
              intro e q3 hpost
              obtain ⟨last, ok, he, hl32, hla, hg⟩ := hpost
              subst he
              have HLA := Lib.hid hla
              have HT3 := Lib.hid (HT2.out.kept (Touch.of_below (S := []) hg) (by simp) (by simp))
              have HG3 := Lib.hid (Grow.trans HG2.out hg)
              clear hg hla
              cases ok with
              | true =>
                go_wp2_with fail
                refine (revoked_ok HT3.out b last hl32).mono ?_
                intro e q4 hpost
                obtain ⟨he, hg⟩ := hpost
                rw [show revoked m b last = true by rw [← HLA.out.revoked last]; simp] at he
                subst he
                have HT4 := Lib.hid (HT3.out.kept (Touch.of_below (S := []) hg) (by simp) (by simp))
                have HG4 := Lib.hid (Grow.trans HG3.out hg)
                clear hg
                by_cases hmx : last < 4294967295
                · have emx : decide ((last : Int) < 4294967295) = true := by simp; omega
                  go_wp2_with fail
                  rw [show (last : Int) + 1 = ((last + 1 : Nat) : Int) by omega]
                  refine (revoked_ok HT4.out b (last + 1) (by omega)).mono ?_
                  intro e q5 hpost
                  obtain ⟨he, hg⟩ := hpost
                  rw [show revoked m b (last + 1) = false by rw [← HLA.out.revoked (last + 1)]; simp] at he
                  subst he
                  have HT5 := Lib.hid (HT4.out.kept (Touch.of_below (S := []) hg) (by simp) (by simp))
                  have HG5 := Lib.hid (Grow.trans HG4.out hg)
                  clear hg
                  go_wp2_with fail
                  rw [show (s : Int) - 1 = ((s - 1 : Nat) : Int) by omega]
                  refine (drop_ok HT5.out (s - 1) (by omega)).mono ?_
                  intro e q7 hpost
                  obtain ⟨⟨ve, he⟩, hT7, ht7⟩ := hpost
                  subst he
                  have HT7 := Lib.hid hT7
                  have HG7 := Lib.hid (show Grow w q7 from Below.trans HG5.out (ht7.below HG5.out.size (by simpa using HBM.out)))
                  clear hT7 ht7
                  go_wp2_with fail
                  refine (revoked_ok HT7.out b s hs).mono ?_
                  intro e q8 hpost
                  obtain ⟨he, hg⟩ := hpost
                  rw [revoked_drop m b s hz, HWAS.out] at he
                  subst he
                  have HG8 := Lib.hid (Grow.trans HG7.out hg)
                  clear hg
                  go_wp2_with fail
                  refine (awake_ok _).mono ?_
                  intro e q9 hpost
                  obtain ⟨he, hg⟩ := hpost
                  subst he
                  have HG9 := Lib.hid (Grow.trans HG8.out hg)
                  clear hg
                  go_wp2_with fail
                  go_ret
                  exact ⟨rfl, HG9.out⟩
                · have emx : decide ((last : Int) < 4294967295) = false := by simp; omega
                  go_wp2_with fail
                  rw [show (s : Int) - 1 = ((s - 1 : Nat) : Int) by omega]
                  refine (drop_ok HT4.out (s - 1) (by omega)).mono ?_
                  intro e q7 hpost
                  obtain ⟨⟨ve, he⟩, hT7, ht7⟩ := hpost
                  subst he
                  have HT7 := Lib.hid hT7
                  have HG7 := Lib.hid (show Grow w q7 from Below.trans HG4.out (ht7.below HG4.out.size (by simpa using HBM.out)))
                  clear hT7 ht7
                  go_wp2_with fail
                  refine (revoked_ok HT7.out b s hs).mono ?_
                  intro e q8 hpost
                  obtain ⟨he, hg⟩ := hpost
                  rw [revoked_drop m b s hz, HWAS.out] at he
                  subst he
                  have HG8 := Lib.hid (Grow.trans HG7.out hg)
                  clear hg
                  go_wp2_with fail
                  refine (awake_ok _).mono ?_
                  intro e q9 hpost
                  obtain ⟨he, hg⟩ := hpost
                  subst he
                  have HG9 := Lib.hid (Grow.trans HG8.out hg)
                  clear hg
                  go_wp2_with fail
                  go_ret
                  exact ⟨rfl, HG9.out⟩
              | false =>
                go_wp2_with fail
                refine (revoked_ok HT3.out b 0 (by omega)).mono ?_
                intro e q4 hpost
                obtain ⟨he, hg⟩ := hpost
                rw [show revoked m b 0 = false by rw [← HLA.out.revoked 0]; rfl] at he
                subst he
                have HT4 := Lib.hid (HT3.out.kept (Touch.of_below (S := []) hg) (by simp) (by simp))
                have HG4 := Lib.hid (Grow.trans HG3.out hg)
                clear hg
                go_wp2_with fail
                rw [show (s : Int) - 1 = ((s - 1 : Nat) : Int) by omega]
                refine (drop_ok HT4.out (s - 1) (by omega)).mono ?_
                intro e q7 hpost
                obtain ⟨⟨ve, he⟩, hT7, ht7⟩ := hpost
                subst he
                have HT7 := Lib.hid hT7
                have HG7 := Lib.hid (show Grow w q7 from Below.trans HG4.out (ht7.below HG4.out.size (by simpa using HBM.out)))
                clear hT7 ht7
                go_wp2_with fail
                refine (revoked_ok HT7.out b s hs).mono ?_
                intro e q8 hpost
                obtain ⟨he, hg⟩ := hpost
                rw [revoked_drop m b s hz, HWAS.out] at he
                subst he
                have HG8 := Lib.hid (Grow.trans HG7.out hg)
                clear hg
                go_wp2_with fail
                refine (awake_ok _).mono ?_
                intro e q9 hpost
                obtain ⟨he, hg⟩ := hpost
                subst he
                have HG9 := Lib.hid (Grow.trans HG8.out hg)
                clear hg
                go_wp2_with fail
                go_ret
                exact ⟨rfl, HG9.out⟩
            | false =>
              go_wp2_with fail
              refine (last_ok HT1.out b).mono ?_
              intro e q3 hpost
              obtain ⟨last, ok, he, hl32, hla, hg⟩ := hpost
              subst he
              have HLA := Lib.hid hla
              have HT3 := Lib.hid (HT1.out.kept (Touch.of_below (S := []) hg) (by simp) (by simp))
              have HG3 := Lib.hid (Grow.trans HG1.out hg)
              clear hg hla
              cases ok with
              | true =>
                go_wp2_with fail
                refine (revoked_ok HT3.out b last hl32).mono ?_
                intro e q4 hpost
                obtain ⟨he, hg⟩ := hpost
                rw [show revoked m b last = true by rw [← HLA.out.revoked last]; simp] at he
                subst he
                have HT4 := Lib.hid (HT3.out.kept (Touch.of_below (S := []) hg) (by simp) (by simp))
                have HG4 := Lib.hid (Grow.trans HG3.out hg)
                clear hg
                by_cases hmx : last < 4294967295
                · have emx : decide ((last : Int) < 4294967295) = true := by simp; omega
                  go_wp2_with fail
                  rw [show (last : Int) + 1 = ((last + 1 : Nat) : Int) by omega]
                  refine (revoked_ok HT4.out b (last + 1) (by omega)).mono ?_
                  intro e q5 hpost
                  obtain ⟨he, hg⟩ := hpost
                  rw [show revoked m b (last + 1) = false by rw [← HLA.out.revoked (last + 1)]; simp] at he
                  subst he
                  have HT5 := Lib.hid (HT4.out.kept (Touch.of_below (S := []) hg) (by simp) (by simp))
                  have HG5 := Lib.hid (Grow.trans HG4.out hg)
                  clear hg
                  go_wp2_with fail
                  rw [show (s : Int) - 1 = ((s - 1 : Nat) : Int) by omega]
                  refine (drop_ok HT5.out (s - 1) (by omega)).mono ?_
                  intro e q7 hpost
                  obtain ⟨⟨ve, he⟩, hT7, ht7⟩ := hpost
                  subst he
                  have HT7 := Lib.hid hT7
                  have HG7 := Lib.hid (show Grow w q7 from Below.trans HG5.out (ht7.below HG5.out.size (by simpa using HBM.out)))
                  clear hT7 ht7
                  go_wp2_with fail
                  refine (revoked_ok HT7.out b s hs).mono ?_
                  intro e q8 hpost
                  obtain ⟨he, hg⟩ := hpost
                  rw [revoked_drop m b s hz, HWAS.out] at he
                  subst he
                  have HG8 := Lib.hid (Grow.trans HG7.out hg)
                  clear hg
                  go_wp2_with fail
                  refine (awake_ok _).mono ?_
                  intro e q9 hpost
                  obtain ⟨he, hg⟩ := hpost
                  subst he
                  have HG9 := Lib.hid (Grow.trans HG8.out hg)
                  clear hg
                  go_wp2_with fail
                  go_ret
                  exact ⟨rfl, HG9.out⟩
                · have emx : decide ((last : Int) < 4294967295) = false := by simp; omega
                  go_wp2_with fail
                  rw [show (s : Int) - 1 = ((s - 1 : Nat) : Int) by omega]
                  refine (drop_ok HT4.out (s - 1) (by omega)).mono ?_
                  intro e q7 hpost
                  obtain ⟨⟨ve, he⟩, hT7, ht7⟩ := hpost
                  subst he
                  have HT7 := Lib.hid hT7
                  have HG7 := Lib.hid (show Grow w q7 from Below.trans HG4.out (ht7.below HG4.out.size (by simpa using HBM.out)))
                  clear hT7 ht7
                  go_wp2_with fail
                  refine (revoked_ok HT7.out b s hs).mono ?_
                  intro e q8 hpost
                  obtain ⟨he, hg⟩ := hpost
                  rw [revoked_drop m b s hz, HWAS.out] at he
                  subst he
                  have HG8 := Lib.hid (Grow.trans HG7.out hg)
                  clear hg
                  go_wp2_with fail
                  refine (awake_ok _).mono ?_
                  intro e q9 hpost
                  obtain ⟨he, hg⟩ := hpost
                  subst he
                  have HG9 := Lib.hid (Grow.trans HG8.out hg)
                  clear hg
                  go_wp2_with fail
                  go_ret
                  exact ⟨rfl, HG9.out⟩
              | false =>
                go_wp2_with fail
                refine (revoked_ok HT3.out b 0 (by omega)).mono ?_
                intro e q4 hpost
                obtain ⟨he, hg⟩ := hpost
                rw [show revoked m b 0 = false by rw [← HLA.out.revoked 0]; rfl] at he
                subst he
                have HT4 := Lib.hid (HT3.out.kept (Touch.of_below (S := []) hg) (by simp) (by simp))
                have HG4 := Lib.hid (Grow.trans HG3.out hg)
                clear hg
                go_wp2_with fail
                rw [show (s : Int) - 1 = ((s - 1 : Nat) : Int) by omega]
                refine (drop_ok HT4.out (s - 1) (by omega)).mono ?_
                intro e q7 hpost
                obtain ⟨⟨ve, he⟩, hT7, ht7⟩ := hpost
                subst he
                have HT7 := Lib.hid hT7
                have HG7 := Lib.hid (show Grow w q7 from Below.trans HG4.out (ht7.below HG4.out.size (by simpa using HBM.out)))
                clear hT7 ht7
                go_wp2_with fail
                refine (revoked_ok HT7.out b s hs).mono ?_
                intro e q8 hpost
                obtain ⟨he, hg⟩ := hpost
                rw [revoked_drop m b s hz, HWAS.out] at he
                subst he
                have HG8 := Lib.hid (Grow.trans HG7.out hg)
                clear hg
                go_wp2_with fail
                refine (awake_ok _).mono ?_
                intro e q9 hpost
                obtain ⟨he, hg⟩ := hpost
                subst he
                have HG9 := Lib.hid (Grow.trans HG8.out hg)
                clear hg
                go_wp2_with fail
                go_ret
                exact ⟨rfl, HG9.out⟩
          · have ez : decide ((0 : Int) < (s : Int)) = false := by simp; omega
            go_wp2_with fail
            refine (revoked_ok HT.out b s hs).mono ?_
            intro e q1 hpost
            obtain ⟨he, hg⟩ := hpost
            rw [HWAS.out] at he
            subst he
            have HT1 := Lib.hid (HT.out.kept (Touch.of_below (S := []) hg) (by simp) (by simp))
            have HG1 := Lib.hid (Grow.trans HG.out hg)
            clear hg
            cases was with
            | true =>
              go_wp2_with fail
              refine (revoked_ok HT1.out b t ht).mono ?_
              intro e q2 hpost
              obtain ⟨he, hg⟩ := hpost
              rw [revoked_mono (by omega) HWAS.out] at he
              subst he
              have HT2 := Lib.hid (HT1.out.kept (Touch.of_below (S := []) hg) (by simp) (by simp))
              have HG2 := Lib.hid (Grow.trans HG1.out hg)
              clear hg
              go_wp2_with fail
              refine (last_ok HT2.out b).mono ?_
              intro e q3 hpost
              obtain ⟨last, ok, he, hl32, hla, hg⟩ := hpost
              subst he
              have HLA := Lib.hid hla
              have HT3 := Lib.hid (HT2.out.kept (Touch.of_below (S := []) hg) (by simp) (by simp))
              have HG3 := Lib.hid (Grow.trans HG2.out hg)
              clear hg hla
              cases ok with
              | true =>
                go_wp2_with fail
                refine (revoked_ok HT3.out b last hl32).mono ?_
                intro e q4 hpost
                obtain ⟨he, hg⟩ := hpost
                rw [show revoked m b last = true by rw [← HLA.out.revoked last]; simp] at he
                subst he
                have HT4 := Lib.hid (HT3.out.kept (Touch.of_below (S := []) hg) (by simp) (by simp))
                have HG4 := Lib.hid (Grow.trans HG3.out hg)
                clear hg
                by_cases hmx : last < 4294967295
                · have emx : decide ((last : Int) < 4294967295) = true := by simp; omega
                  go_wp2_with fail
                  rw [show (last : Int) + 1 = ((last + 1 : Nat) : Int) by omega]
                  refine (revoked_ok HT4.out b (last + 1) (by omega)).mono ?_
                  intro e q5 hpost
                  obtain ⟨he, hg⟩ := hpost
                  rw [show revoked m b (last + 1) = false by rw [← HLA.out.revoked (last + 1)]; simp] at he
                  subst he
                  have HT5 := Lib.hid (HT4.out.kept (Touch.of_below (S := []) hg) (by simp) (by simp))
                  have HG5 := Lib.hid (Grow.trans HG4.out hg)
                  clear hg
                  go_wp2_with fail
                  refine (awake_ok _).mono ?_
                  intro e q9 hpost
                  obtain ⟨he, hg⟩ := hpost
                  subst he
                  have HG9 := Lib.hid (Grow.trans HG5.out hg)
                  clear hg
                  go_wp2_with fail
                  go_ret
                  exact ⟨rfl, HG9.out⟩
                · have emx : decide ((last : Int) < 4294967295) = false := by simp; omega
                  go_wp2_with fail
                  refine (awake_ok _).mono ?_
                  intro e q9 hpost
                  obtain ⟨he, hg⟩ := hpost
                  subst he
                  have HG9 := Lib.hid (Grow.trans HG4.out hg)
                  clear hg
                  go_wp2_with fail
                  go_ret
                  exact ⟨rfl, HG9.out⟩
              | false =>
                go_wp2_with fail
                refine (revoked_ok HT3.out b 0 (by omega)).mono ?_
                intro e q4 hpost
                obtain ⟨he, hg⟩ := hpost
                rw [show revoked m b 0 = false by rw [← HLA.out.revoked 0]; rfl] at he
                subst he
                have HT4 := Lib.hid (HT3.out.kept (Touch.of_below (S := []) hg) (by simp) (by simp))
                have HG4 := Lib.hid (Grow.trans HG3.out hg)
                clear hg
                go_wp2_with fail
                refine (awake_ok _).mono ?_
                intro e q9 hpost
                obtain ⟨he, hg⟩ := hpost
                subst he
                have HG9 := Lib.hid (Grow.trans HG4.out hg)
                clear hg
                go_wp2_with fail
                go_ret
                exact ⟨rfl, HG9.out⟩
            | false =>
              go_wp2_with fail
              refine (last_ok HT1.out b).mono ?_
              intro e q3 hpost
              obtain ⟨last, ok, he, hl32, hla, hg⟩ := hpost
              subst he
              have HLA := Lib.hid hla
              have HT3 := Lib.hid (HT1.out.kept (Touch.of_below (S := []) hg) (by simp) (by simp))
              have HG3 := Lib.hid (Grow.trans HG1.out hg)
              clear hg hla
              cases ok with
              | true =>
                go_wp2_with fail
                refine (revoked_ok HT3.out b last hl32).mono ?_
                intro e q4 hpost
                obtain ⟨he, hg⟩ := hpost
                rw [show revoked m b last = true by rw [← HLA.out.revoked last]; simp] at he
                subst he
                have HT4 := Lib.hid (HT3.out.kept (Touch.of_below (S := []) hg) (by simp) (by simp))
                have HG4 := Lib.hid (Grow.trans HG3.out hg)
                clear hg
                by_cases hmx : last < 4294967295
                · have emx : decide ((last : Int) < 4294967295) = true := by simp; omega
                  go_wp2_with fail
                  rw [show (last : Int) + 1 = ((last + 1 : Nat) : Int) by omega]
                  refine (revoked_ok HT4.out b (last + 1) (by omega)).mono ?_
                  intro e q5 hpost
                  obtain ⟨he, hg⟩ := hpost
                  rw [show revoked m b (last + 1) = false by rw [← HLA.out.revoked (last + 1)]; simp] at he
                  subst he
                  have HT5 := Lib.hid (HT4.out.kept (Touch.of_below (S := []) hg) (by simp) (by simp))
                  have HG5 := Lib.hid (Grow.trans HG4.out hg)
                  clear hg
                  go_wp2_with fail
                  refine (awake_ok _).mono ?_
                  intro e q9 hpost
                  obtain ⟨he, hg⟩ := hpost
                  subst he
                  have HG9 := Lib.hid (Grow.trans HG5.out hg)
                  clear hg
                  go_wp2_with fail
                  go_ret
                  exact ⟨rfl, HG9.out⟩
                · have emx : decide ((last : Int) < 4294967295) = false := by simp; omega
                  go_wp2_with fail
                  refine (awake_ok _).mono ?_
                  intro e q9 hpost
                  obtain ⟨he, hg⟩ := hpost
                  subst he
                  have HG9 := Lib.hid (Grow.trans HG4.out hg)
                  clear hg
                  go_wp2_with fail
                  go_ret
                  exact ⟨rfl, HG9.out⟩
              | false =>
                go_wp2_with fail
                refine (revoked_ok HT3.out b 0 (by omega)).mono ?_
                intro e q4 hpost
                obtain ⟨he, hg⟩ := hpost
                rw [show revoked m b 0 = false by rw [← HLA.out.revoked 0]; rfl] at he
                subst he
                have HT4 := Lib.hid (HT3.out.kept (Touch.of_below (S := []) hg) (by simp) (by simp))
                have HG4 := Lib.hid (Grow.trans HG3.out hg)
                clear hg
                go_wp2_with fail
                refine (awake_ok _).mono ?_
                intro e q9 hpost
                obtain ⟨he, hg⟩ := hpost
                subst he
                have HG9 := Lib.hid (Grow.trans HG4.out hg)
                clear hg
                go_wp2_with fail
                go_ret
                exact ⟨rfl, HG9.out⟩
#print axioms down_walk
end Go.Proofs.Ytbpejjgjjjmlkaa
