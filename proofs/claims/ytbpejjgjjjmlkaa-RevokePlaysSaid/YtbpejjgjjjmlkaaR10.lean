/- The law RevokeDrops: the walk. -/
import Derived.Test.YtbpejjgjjjmlkaaR8
import Derived.Test.YtbpejjgjjjmlkaaR5
set_option linter.unusedVariables false
set_option linter.unusedSimpArgs false
namespace Go.Proofs.Ytbpejjgjjjmlkaa
open Go.RowKit Go.Maps

theorem dropR_step {m : List Rc} {i : Nat} {x : Rc} (h : m[i]? = some x) (s : Nat) : dropR (m.take (i + 1)) s = if s < x.2 then dropR (m.take i) s ++ [x] else dropR (m.take i) s := by
  have hk := (List.getElem?_eq_some_iff.1 h).1
  have hv := (List.getElem?_eq_some_iff.1 h).2
  unfold dropR
  rw [List.take_succ_eq_append_getElem hk, List.filter_append, hv]
  by_cases e : s < x.2 <;> simp [e]
theorem revoked_snoc (l : List Rc) (x : Rc) (b : Int) (s : Nat) : revoked (l ++ [x]) b s = (revoked l b s || decide (x.1 = b ∧ s ≤ x.2)) := by
  unfold revoked; rw [List.any_append]; simp
theorem ofR_dropR (m : List Rc) (s : Nat) : ofR (dropR m s) s = [] := by
  rw [List.eq_nil_iff_forall_not_mem]
  intro b hb
  rw [ofR_mem] at hb
  unfold dropR at hb
  have := of_decide_eq_true (List.mem_filter.1 hb).2
  simp at this
theorem dropR_len (m : List Rc) (s : Nat) : (dropR m s).length ≤ m.length := List.length_filter_le _ _
set_option maxRecDepth 100000 in
set_option maxHeartbeats 4000000 in
theorem drops_walk {w : World} {v : Value} {l : List RP} (hp : RecsIn w v l) (hl : l.length ≤ 9223372036854775807) (dr : Nat) (hdr : dr < 4294967296) (b : Int) (s : Nat) (hs : s < 4294967296) :
    Calls Try.prog 8 #[v, .int .u32 (dr : Int), .int .i64 b, .int .u32 (s : Int)] w fun e w' => e = .returned (.bool true) ∧ Below w.heap.size w w' := by
  have HP := Lib.hid hp
  obtain ⟨ad, cap, rfl, hc⟩ := hp
  obtain ⟨L, hL⟩ : ∃ L, L = l.length := ⟨_, rfl⟩
  rw [← hL] at hl HP ⊢
  have HL := Lib.hid hL
  clear hc hL
  by_cases h3 : 200 < L
  · have d0 : decide ((200 : Int) < (L : Int)) = true := by simp; omega
    go_enter Try.func8, Try.ntmps8
    go_wp2_with fail
    go_ret
    exact ⟨rfl, Below.refl _ _⟩
  · have d0 : decide ((200 : Int) < (L : Int)) = false := by simp; omega
    go_enter Try.func8, Try.ntmps8
    go_wp2_with fail
    refine (laid_ok HP.out (by rw [← HL.out]; omega)).mono ?_
    intro e w1 hpost
    obtain ⟨B, bm, vm, he, hI⟩ := hpost
    obtain ⟨m, hm⟩ : ∃ m, m = laidR l := ⟨_, rfl⟩
    rw [← hm, ← HL.out] at hI
    clear hm
    have HT := Lib.hid hI.tab
    have HR := Lib.hid hI.row
    have HG := Lib.hid hI.grow
    have HML := Lib.hid hI.len
    have HVL := Lib.hid hI.vl
    have HBM := Lib.hid hI.bml
    obtain ⟨a8, c8, hvm⟩ := hI.row.len
    rw [List.length_map] at hvm
    subst hvm
    subst he
    clear hI
    obtain ⟨n8, hn8⟩ : ∃ n8, n8 = m.length := ⟨_, rfl⟩
    rw [← hn8] at HR HML HVL ⊢
    have n8l : n8 ≤ 200 := by have := HML.out; omega
    have HN8 := Lib.hid hn8
    clear hn8
    go_wp2_with fail
    refine (drop_ok HT.out dr hdr).mono ?_
    intro e w2 hpost
    obtain ⟨⟨ve, he⟩, ht2, hto⟩ := hpost
    subst he
    have HT2 := Lib.hid ht2
    have HR2 := Lib.hid (HR.out.kept hto (fun g e hm => (HVL.out g e).2.2 (List.mem_singleton.1 hm)))
    have HG2 := Lib.hid (show Grow w w2 from Below.trans HG.out (hto.below HG.out.size (by simpa using HBM.out)))
    clear ht2 hto HT HR HG
    go_wp2_with fail
    go_loopw [11, 12, 13] (fun t11 t12 t13 wr => ∃ (i k : Nat) (rv : Bool), i ≤ n8 ∧ k ≤ i ∧ t11 = .int .i64 (k : Int) ∧ t12 = .bool rv ∧ t13 = .int .i64 (i : Int) ∧ Hid ((dropR (m.take i) dr).length = k) ∧ Hid (revoked (dropR (m.take i) dr) b s = rv) ∧ Hid (wr = w2)) (fun _ _ t13 _ => n8 - (intOf t13).toNat)
    case atStart => exact ⟨0, 0, false, by omega, by omega, rfl, rfl, rfl, Lib.hid rfl, Lib.hid rfl, Lib.hid rfl⟩
    case round =>
      obtain ⟨i, k, rv, hi, hki, rfl, rfl, rfl, HK, HV, HW⟩ := hrel
      obtain rfl := HW.out
      by_cases hlt : i < n8
      · have him : i < m.length := by rw [← HN8.out]; exact hlt
        obtain ⟨r, hr⟩ : ∃ r, m[i]? = some r := ⟨m[i], by simp [him]⟩
        obtain ⟨gm, cm, hv, hgm, _, _⟩ := HR2.out.open_ (by rw [List.length_map]; omega)
        rw [List.length_map, ← HN8.out] at hv
        cases hv
        obtain ⟨x0, x1, x2⟩ := HR2.out.cells3 hr
        have HST := Lib.hid (dropR_step hr dr)
        obtain ⟨rb, rs⟩ := r
        dsimp only at x0 x1
        have b0 : (0 : Int) ≤ (i : Int) := by omega
        have b1 : (i : Int) < (n8 : Int) := by omega
        clear hr him hgm
        by_cases hgt : dr < rs
        · have HS2 := Lib.hid (HST.out.trans (if_pos hgt))
          have eg : decide ((dr : Int) < (rs : Int)) = true := by simp; omega
          have HK2 := Lib.hid (show (dropR (m.take (i + 1)) dr).length = k + 1 by rw [HS2.out, List.length_append, HK.out]; rfl)
          cases rv with
          | true =>
            have HV2 := Lib.hid (show revoked (dropR (m.take (i + 1)) dr) b s = true by rw [HS2.out, revoked_snoc, HV.out]; rfl)
            go_wp2_with fail
            go_roundw
            case rel => exact ⟨i + 1, k + 1, true, by omega, by omega, by go_num, rfl, by go_num, HK2, HV2, Lib.hid trivial⟩
            case measure => simp [intOf]; omega
          | false =>
            by_cases hb : rb = b
            · have eb : (rb == b) = true := by simpa using hb
              by_cases hss : s ≤ rs
              · have es : decide ((s : Int) ≤ (rs : Int)) = true := by simp; omega
                have HV2 := Lib.hid (show revoked (dropR (m.take (i + 1)) dr) b s = true by rw [HS2.out, revoked_snoc, HV.out]; simp [hb, hss])
                go_wp2_with fail
                go_roundw
                case rel => exact ⟨i + 1, k + 1, true, by omega, by omega, by go_num, rfl, by go_num, HK2, HV2, Lib.hid trivial⟩
                case measure => simp [intOf]; omega
              · have es : decide ((s : Int) ≤ (rs : Int)) = false := by simp; omega
                have HV2 := Lib.hid (show revoked (dropR (m.take (i + 1)) dr) b s = false by rw [HS2.out, revoked_snoc, HV.out]; simp [hb, hss])
                go_wp2_with fail
                go_roundw
                case rel => exact ⟨i + 1, k + 1, false, by omega, by omega, by go_num, rfl, by go_num, HK2, HV2, Lib.hid trivial⟩
                case measure => simp [intOf]; omega
            · have eb : (rb == b) = false := by simpa using hb
              have HV2 := Lib.hid (show revoked (dropR (m.take (i + 1)) dr) b s = false by rw [HS2.out, revoked_snoc, HV.out]; simp [hb])
              go_wp2_with fail
              go_roundw
              case rel => exact ⟨i + 1, k + 1, false, by omega, by omega, by go_num, rfl, by go_num, HK2, HV2, Lib.hid trivial⟩
              case measure => simp [intOf]; omega
        · have HS2 := Lib.hid (HST.out.trans (if_neg hgt))
          have eg : decide ((dr : Int) < (rs : Int)) = false := by simp; omega
          have HK2 := Lib.hid (show (dropR (m.take (i + 1)) dr).length = k by rw [HS2.out]; exact HK.out)
          have HV2 := Lib.hid (show revoked (dropR (m.take (i + 1)) dr) b s = rv by rw [HS2.out]; exact HV.out)
          go_wp2_with fail
          go_roundw
          case rel => exact ⟨i + 1, k, rv, by omega, by omega, rfl, rfl, by go_num, HK2, HV2, Lib.hid trivial⟩
          case measure => simp [intOf]; omega
      · obtain rfl : i = n8 := by omega
        have HKm := Lib.hid (show (dropR m dr).length = k by have := HK.out; rw [HN8.out, List.take_length] at this; exact this)
        have HVm := Lib.hid (show revoked (dropR m dr) b s = rv by have := HV.out; rw [HN8.out, List.take_length] at this; exact this)
        have HLd := Lib.hid (show (dropR m dr).length ≤ 100000 by rw [HKm.out]; omega)
        clear HK HV HW
        go_wp2_with fail
        refine (len_ok HT2.out).mono ?_
        intro e w' hpost
        obtain ⟨he, hw⟩ := hpost
        rw [HKm.out] at he
        subst he hw
        go_wp2_with fail
        refine (revoked_ok HT2.out b s hs).mono ?_
        intro e w3 hpost
        obtain ⟨he, hg3⟩ := hpost
        rw [HVm.out] at he
        subst he
        have HT3 := Lib.hid (HT2.out.kept (Touch.of_below (S := []) hg3) (by simp) (by simp))
        have HG3 := Lib.hid (Grow.trans HG2.out hg3)
        clear hg3
        go_wp2_with fail
        refine (of_ok HT3.out HLd.out dr).mono ?_
        intro e w4 hpost
        obtain ⟨vo, he, hrow, hg4, _⟩ := hpost
        rw [ofR_dropR] at hrow
        obtain ⟨ao, co, hvo⟩ := hrow.len
        rw [List.length_map, sortI_length] at hvo
        subst hvo
        subst he
        have HT4 := Lib.hid (HT3.out.kept (Touch.of_below (S := []) hg4) (by simp) (by simp))
        have HG4 := Lib.hid (Grow.trans HG3.out hg4)
        clear hg4 hrow
        go_wp2_with fail
        refine (add_neg HT4.out (-1) _ (by omega)).mono ?_
        intro e w' hpost
        obtain ⟨he, hw⟩ := hpost
        subst he hw
        go_wp2_with fail
        go_ret
        exact ⟨rfl, HG4.out⟩
#print axioms drops_walk
end Go.Proofs.Ytbpejjgjjjmlkaa
