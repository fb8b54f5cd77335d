/- The law TxnLittle: the walk. -/
import Derived.Test.YtnogajnoghjmhaaT23
set_option linter.unusedVariables false
set_option linter.unusedSimpArgs false
namespace Go.Proofs.Ytnogajnoghjmhaa
open Go.RowKit Go.Maps

set_option maxRecDepth 100000 in
set_option maxHeartbeats 8000000 in
theorem little_walk (seq : Nat) (hs : seq < 4294967296) {w : World} {v1 v2 : Value} {l1 l2 : List AP} (h1 : ActsIn w v1 l1) (y1 : l1.length ≤ 9223372036854775807) (h2 : ActsIn w v2 l2) (y2 : l2.length ≤ 9223372036854775807) (c r : Int) (hr : IntOk r) :
    Calls Try.prog 5 #[.int .u32 (seq : Int), v1, v2, .int .i64 c, .int .i64 r] w fun e w' => e = .returned (.bool true) ∧ Below w.heap.size w w' := by
  have hzt := zeroT
  have HA1 := Lib.hid h1
  obtain ⟨a1, cap1, hv1⟩ := ActsIn.len h1
  obtain ⟨n1, hn1⟩ : ∃ n, n = l1.length := ⟨_, rfl⟩
  rw [← hn1] at hv1 y1
  subst hv1
  have HN1 := Lib.hid hn1
  clear h1 hn1
  have HA2 := Lib.hid h2
  obtain ⟨a2, cap2, hv2⟩ := ActsIn.len h2
  obtain ⟨n2, hn2⟩ : ∃ n, n = l2.length := ⟨_, rfl⟩
  rw [← hn2] at hv2 y2
  subst hv2
  have HN2 := Lib.hid hn2
  clear h2 hn2
  by_cases g1 : 100 < n1
  · have d1 : decide ((100 : Int) < (n1 : Int)) = true := decide_eq_true (by omega)
    go_enter Try.func5, Try.ntmps5
    go_wp2_with fail
    refine (awake_ok _).mono ?_
    rintro e w' ⟨rfl, hg⟩
    have HG := Lib.hid hg
    clear hg
    go_wp2_with fail
    go_ret
    exact ⟨rfl, HG.out⟩
  have d1 : decide ((100 : Int) < (n1 : Int)) = false := decide_eq_false (by omega)
  by_cases g2 : 100 < n2
  · have d2 : decide ((100 : Int) < (n2 : Int)) = true := decide_eq_true (by omega)
    go_enter Try.func5, Try.ntmps5
    go_wp2_with fail
    refine (awake_ok _).mono ?_
    rintro e w' ⟨rfl, hg⟩
    have HG := Lib.hid hg
    clear hg
    go_wp2_with fail
    go_ret
    exact ⟨rfl, HG.out⟩
  have d2 : decide ((100 : Int) < (n2 : Int)) = false := decide_eq_false (by omega)
  go_enter Try.func5, Try.ntmps5
  go_wp2_with fail
  refine (live_new seq (P := []) _ (by simp)).mono ?_
  rintro e w1 ⟨A, rfl, hl⟩
  have HL0 := Lib.hid hl
  clear hl
  go_wp2_with fail
  clear d1 d2
  go_loopw [12] (fun t12 wr => ∃ (k : Nat), k ≤ n1 ∧ t12 = .int .i64 (k : Int) ∧ ∃ t, Hid (Live w [] A k seq t wr) ∧ Hid t.disj) (fun t12 _ => n1 - (intOfV t12).toNat)
  case atStart => exact ⟨0, by omega, rfl, _, HL0, Lib.hid noPS_disj⟩
  case round =>
    obtain ⟨k, hk, rfl, t, HT, HD⟩ := hrel
    by_cases hlt : k < n1
    · obtain ⟨x, hx⟩ : ∃ x, l1[k]? = some x := ⟨l1[k]'(by rw [← HN1.out]; exact hlt), by simp⟩
      obtain ⟨y, cap', hv, hyb, hat⟩ := HA1.out.at_ hx
      rw [← HN1.out] at hv
      cases hv
      have hyb4 : (y.add (k * 4)).block < w.heap.size := by rw [add_block]; exact hyb
      have hat2 := hat.grow hyb4 hyb4 HT.out.grow
      have HYB := Lib.hid hyb4
      have HAT := Lib.hid hat2
      have HXO := Lib.hid hat2.2.2.2.2
      have b0 : (0 : Int) ≤ (k : Int) := by omega
      have b1 : (k : Int) < (n1 : Int) := by omega
      obtain ⟨⟨z, t'⟩, hzr⟩ : ∃ zr, doT t x = zr := ⟨_, rfl⟩
      have HZR := Lib.hid hzr
      have HD' := Lib.hid (show t'.disj by have := doT_disj HD.out x; rw [hzr] at this; exact this)
      have k0 : wr.cell? (y.add (k * 4)) = some (.int .u8 (x.k : Int)) := hat2.1
      have k1 : wr.cell? { block := (y.add (k * 4)).block, off := (y.add (k * 4)).off + 1 } = some (.int .i64 x.at_) := hat2.2.1
      have k2 : wr.cell? { block := (y.add (k * 4)).block, off := (y.add (k * 4)).off + 2 } = some (.int .i64 x.more) := hat2.2.2.1
      have k3 : wr.cell? { block := (y.add (k * 4)).block, off := (y.add (k * 4)).off + 3 } = some (.int .u32 (x.fill : Int)) := hat2.2.2.2.1
      clear hx hyb hat hyb4 hat2 hzr
      go_wp2_with fail
      refine (HT.out.do_ (by omega) hs HXO.out).mono ?_
      intro e w3 hp
      unfold LPost at hp
      rw [HZR.out] at hp
      obtain ⟨rfl, hT, hb⟩ := hp
      have HT3 := Lib.hid hT
      clear k0 k1 k2 k3 hT hb
      go_wp2_with fail
      go_roundw
      case rel => exact ⟨k + 1, by omega, by go_num, t', HT3, HD'⟩
      case measure => simp [intOfV]; omega
    · obtain rfl : k = n1 := by omega
      obtain ⟨m1, rfl⟩ : ∃ m1 : Nat, m1 = k := ⟨_, rfl⟩
      go_wp2_with fail
      obtain ⟨ze, hze⟩ := endT_two t
      have HZE := Lib.hid hze
      clear hze
      refine (HT.out.end_).mono ?_
      intro e w5 hp
      unfold LPost at hp
      rw [HZE.out] at hp
      obtain ⟨rfl, hT, hb⟩ := hp
      have HT5 := Lib.hid hT
      clear hT hb
      obtain ⟨s, hsn⟩ : ∃ s, t.now = s := ⟨_, rfl⟩
      rw [hsn] at HT5
      have HSD := Lib.hid (show s.disj by
        rw [← hsn]
        have := HD.out
        cases t with
        | c _ => exact this
        | o _ _ _ _ _ => exact this.1)
      clear hsn HZE HT HD
      go_wp2_with fail
      refine (HT5.out.trans (by omega)).mono ?_
      rintro e w6 ⟨vc, vr, rfl, hc, hrr, hg, hvc, _⟩
      obtain ⟨ac, cc, hvl⟩ := CRow.len hc
      obtain ⟨na, hna⟩ : ∃ na, na = (TS.now (.c s)).copies.length := ⟨_, rfl⟩
      rw [← hna] at hvl
      subst hvl
      obtain ⟨ar, cr, hvr⟩ := IRow.len hrr
      obtain ⟨nr, hnr⟩ : ∃ nr, nr = (TS.now (.c s)).rv.length := ⟨_, rfl⟩
      rw [← hnr] at hvr
      subst hvr
      have HC6 := Lib.hid (show CRow w6 (.slice ac na cc) s.copies from hc)
      have HNA := Lib.hid (show na = s.copies.length from hna)
      have HG6 := Lib.hid hg
      have HVC := Lib.hid hvc
      clear hc hrr hg hvc hna hnr
      have hob := heap_alloc_last w6 (.cells #[.int .u32 0, .slice none 0 0, .slice none 0 0] 41)
      have z0 := cell_at hob 0
      have z1 := cell_at hob 1
      have z2 := cell_at hob 2
      have q0 := frozen_at hob 0
      have q1 := frozen_at hob 1
      have q2 := frozen_at hob 2
      clear hob
      simp only [List.getElem?_toArray, List.getElem?_cons_zero, List.getElem?_cons_succ] at z0 z1 z2
      go_upto_region 10 with (fail)
      have HT8 := Lib.hid (HT5.out.spare (Q := w6.heap.size :: ownL (.slice ac na cc)) (w' := w6.alloc (.cells #[.int .u32 (seq : Int), .slice ac na cc, .slice ar nr cr] 41)) (Grow.trans HG6.out (Grow.alloc _ _)) (fun g hg => by
        have hs6 := HG6.out.size
        rcases List.mem_cons.1 hg with rfl | hg
        · exact .inr ⟨hs6, by simp⟩
        · have hg := ownL_mem.1 hg
          have h1 := HVC.out g hg
          have h2 := Row.own_lt HC6.out hg
          exact .inr ⟨h1, by simp; omega⟩))
      have HO8 := Lib.hid (heap_alloc_last w6 (.cells #[.int .u32 (seq : Int), .slice ac na cc, .slice ar nr cr] 41))
      have HL8 := Lib.hid (show w6.heap.size < (w6.alloc (.cells #[.int .u32 (seq : Int), .slice ac na cc, .slice ar nr cr] 41)).heap.size by simp)
      have HC8 := Lib.hid (HC6.out.grow (Grow.alloc w6 (.cells #[.int .u32 (seq : Int), .slice ac na cc, .slice ar nr cr] 41)))
      generalize (w6.alloc (.cells #[.int .u32 (seq : Int), .slice ac na cc, .slice ar nr cr] 41)) = W8 at *
      obtain ⟨TW, hTW⟩ : ∃ g, g = w6.heap.size := ⟨_, rfl⟩
      rw [← hTW] at HT8 HO8 HL8 ⊢
      clear hTW z0 z1 z2 q0 q1 q2 HT5 HC6 HG6 HVC
      have HWL := Lib.hid (show s.copies.length ≤ 1000 by
        obtain ⟨a, hv⟩ := HT8.out.tv
        obtain ⟨_, _, _, h3⟩ := hv.p.ch
        unfold PS.copies
        rw [List.length_map, sortI_length, keysA_length]
        have : s.ch.length ≤ m1 + 1 := h3
        omega)
      obtain ⟨PP, hPP⟩ : ∃ P, P = TW :: ownL (.slice ac na cc) := ⟨_, rfl⟩
      rw [← hPP] at HT8
      have HPP := Lib.hid hPP
      clear hPP
      go_wp2_with fail
      refine (HT8.out.begin_ (by omega) hs (c := c) hr).mono ?_
      by_cases hneg : c < 0 ∨ r < 0
      · have HB := Lib.hid (show beginT (.c s) c r = (2, .c s) by unfold beginT; dsimp only; rw [if_pos hneg])
        intro e w7 hp
        unfold LPost at hp
        rw [HB.out] at hp
        obtain ⟨rfl, hT, hb⟩ := hp
        have HG7 := Lib.hid hT.grow
        clear hT hb
        by_cases hc0 : c < 0
        · have e0 : decide (c < 0) = true := decide_eq_true hc0
          go_wp2_with fail
          refine (awake_ok _).mono ?_
          rintro e w' ⟨rfl, hg⟩
          have HG := Lib.hid (Grow.trans HG7.out hg)
          clear hg
          go_wp2_with fail
          go_ret
          exact ⟨rfl, HG.out⟩
        · have e0 : decide (c < 0) = false := decide_eq_false hc0
          have e1 : decide (r < 0) = true := decide_eq_true (by omega)
          go_wp2_with fail
          refine (awake_ok _).mono ?_
          rintro e w' ⟨rfl, hg⟩
          have HG := Lib.hid (Grow.trans HG7.out hg)
          clear hg
          go_wp2_with fail
          go_ret
          exact ⟨rfl, HG.out⟩
      have HB := Lib.hid (show beginT (.c s) c r = (0, .o s s c r []) by unfold beginT; dsimp only; rw [if_neg hneg])
      intro e w7 hp
      unfold LPost at hp
      rw [HB.out] at hp
      obtain ⟨rfl, hT, hb⟩ := hp
      have HT7 := Lib.hid hT
      have HB7 := Lib.hid hb
      have HI7 := Lib.hid (InH.start s (cr := c) (by omega))
      have HSD2 := Lib.hid (show (TS.o s s c r []).disj from ⟨HSD.out, HSD.out⟩)
      clear hT hb hneg
      go_wp2_with fail
      go_loopw [15] (fun t15 wr => ∃ (k : Nat), k ≤ n2 ∧ t15 = .int .i64 (k : Int) ∧ ∃ s' rv did, Hid (Live w PP A (m1 + 1 + 1 + k) seq (.o s' s c rv did) wr) ∧ Hid (InH s s' c did) ∧ Hid (TS.disj (.o s' s c rv did)) ∧ Hid (Spare PP W8 wr)) (fun t15 _ => n2 - (intOfV t15).toNat)
      case atStart => exact ⟨0, by omega, rfl, _, _, _, HT7, HI7, HSD2, HB7⟩
      case round =>
        obtain ⟨k, hk, rfl, s', rv, did, HT, HI, HD, HS⟩ := hrel
        by_cases hlt : k < n2
        · obtain ⟨x, hx⟩ : ∃ x, l2[k]? = some x := ⟨l2[k]'(by rw [← HN2.out]; exact hlt), by simp⟩
          obtain ⟨y, cap', hv, hyb, hat⟩ := HA2.out.at_ hx
          rw [← HN2.out] at hv
          cases hv
          have hyb4 : (y.add (k * 4)).block < w.heap.size := by rw [add_block]; exact hyb
          have hat2 := hat.grow hyb4 hyb4 HT.out.grow
          have HYB := Lib.hid hyb4
          have HAT := Lib.hid hat2
          have HXO := Lib.hid hat2.2.2.2.2
          have b0 : (0 : Int) ≤ (k : Int) := by omega
          have b1 : (k : Int) < (n2 : Int) := by omega
          have k0 : wr.cell? (y.add (k * 4)) = some (.int .u8 (x.k : Int)) := hat2.1
          have k1 : wr.cell? { block := (y.add (k * 4)).block, off := (y.add (k * 4)).off + 1 } = some (.int .i64 x.at_) := hat2.2.1
          have k2 : wr.cell? { block := (y.add (k * 4)).block, off := (y.add (k * 4)).off + 2 } = some (.int .i64 x.more) := hat2.2.2.1
          have k3 : wr.cell? { block := (y.add (k * 4)).block, off := (y.add (k * 4)).off + 3 } = some (.int .u32 (x.fill : Int)) := hat2.2.2.2.1
          clear hx hyb hat hyb4 hat2
          have hxk := HXO.out.k
          by_cases hin : 2 < x.k % 10
          · have e0 : decide ((2 : Int) < (x.k : Int) % 10) = true := decide_eq_true (by omega)
            obtain ⟨z, s2, rv2, did2, hzr, hi2⟩ := HI.out.act (q := s) (rv := rv) hin
            have HZR := Lib.hid hzr
            have HI2 := Lib.hid hi2
            have HD2 := Lib.hid (show (TS.o s2 s c rv2 did2).disj by have := doT_disj HD.out x; rw [hzr] at this; exact this)
            clear hzr hi2
            go_wp2_with fail
            refine (HT.out.do_ (by omega) hs HXO.out).mono ?_
            intro e w8 hp
            unfold LPost at hp
            rw [HZR.out] at hp
            obtain ⟨rfl, hT, hb⟩ := hp
            have HT9 := Lib.hid hT
            have HS9 := Lib.hid (HS.out.trans hb)
            clear hT hb k0 k1 k2 k3
            go_wp2_with fail
            go_roundw
            case rel => exact ⟨k + 1, by omega, by go_num, s2, rv2, did2, HT9, HI2, HD2, HS9⟩
            case measure => simp [intOfV]; omega
          · have e0 : decide ((2 : Int) < (x.k : Int) % 10) = false := decide_eq_false (by omega)
            go_wp2_with fail
            go_roundw
            case rel => exact ⟨k + 1, by omega, by go_num, s', rv, did, Lib.hid (HT.out.mono (by omega)), HI, HD, HS⟩
            case measure => simp [intOfV]; omega
        · obtain rfl : k = n2 := by omega
          go_wp2_with fail
          refine (HT.out.end_).mono ?_
          intro e w9 hp
          obtain ⟨rfl, hT, hb⟩ := hp
          have HT9 := Lib.hid (show Live w PP A (m1 + 1 + 1 + k + 1) seq (.c s') w9 from hT)
          have HS9 := Lib.hid (HS.out.trans hb)
          have HCN := Lib.hid (HI.out.count (by obtain ⟨a, hv⟩ := HT.out.tv; exact hv.p.ch.nodup))
          have HDJ := Lib.hid HD.out.1
          clear hT hb HT HS HI HD
          go_wp2_with fail
          refine (HT9.out.trans (by omega)).mono ?_
          rintro e wA ⟨vc, vr, rfl, hc, hrr, hg, hvc, _⟩
          obtain ⟨bc', cb, hvl⟩ := CRow.len hc
          obtain ⟨nb, hnb⟩ : ∃ nb, nb = (TS.now (.c s')).copies.length := ⟨_, rfl⟩
          rw [← hnb] at hvl
          subst hvl
          obtain ⟨ar2, cr2, hvr⟩ := IRow.len hrr
          obtain ⟨nr2, hnr⟩ : ∃ nr, nr = (TS.now (.c s')).rv.length := ⟨_, rfl⟩
          rw [← hnr] at hvr
          subst hvr
          have HCA := Lib.hid (show CRow wA (.slice bc' nb cb) s'.copies from hc)
          have HNB := Lib.hid (show nb = s'.copies.length from hnb)
          have HTA := Lib.hid (HT9.out.later hg)
          have HSA := Lib.hid (HS9.out.trans (Spare.grow hg))
          clear hc hrr hg hvc hnb hnr
          have hob := heap_alloc_last wA (.cells #[.int .u32 0, .slice none 0 0, .slice none 0 0] 41)
          have z0 := cell_at hob 0
          have z1 := cell_at hob 1
          have z2 := cell_at hob 2
          have q0 := frozen_at hob 0
          have q1 := frozen_at hob 1
          have q2 := frozen_at hob 2
          clear hob
          simp only [List.getElem?_toArray, List.getElem?_cons_zero, List.getElem?_cons_succ] at z0 z1 z2
          go_upto_region 20 with (fail)
          have HTB := Lib.hid (HTA.out.later (Grow.alloc wA (.cells #[.int .u32 (seq : Int), .slice bc' nb cb, .slice ar2 nr2 cr2] 41)))
          have HSB := Lib.hid (HSA.out.trans (Spare.grow (Grow.alloc wA (.cells #[.int .u32 (seq : Int), .slice bc' nb cb, .slice ar2 nr2 cr2] 41))))
          have HOB := Lib.hid (heap_alloc_last wA (.cells #[.int .u32 (seq : Int), .slice bc' nb cb, .slice ar2 nr2 cr2] 41))
          have HCB := Lib.hid (HCA.out.grow (Grow.alloc wA (.cells #[.int .u32 (seq : Int), .slice bc' nb cb, .slice ar2 nr2 cr2] 41)))
          generalize (wA.alloc (.cells #[.int .u32 (seq : Int), .slice bc' nb cb, .slice ar2 nr2 cr2] 41)) = WB at *
          obtain ⟨TN, hTN⟩ : ∃ g, g = wA.heap.size := ⟨_, rfl⟩
          rw [← hTN] at HOB ⊢
          clear hTN z0 z1 z2 q0 q1 q2 HTA HSA HCA HT9 HS9
          go_wp2_with fail
          refine (HTB.out.freed (by omega)).mono ?_
          rintro e wC ⟨vf, rfl, hf, hg, _⟩
          obtain ⟨af, cf, hvf⟩ := IRow.len hf
          obtain ⟨nf, hnf⟩ : ∃ nf, nf = (sortI (keysA (TS.now (.c s')).fr)).length := ⟨_, rfl⟩
          rw [← hnf] at hvf
          subst hvf
          have HF := Lib.hid (show IRow wC (.slice af nf cf) (sortI (keysA s'.fr)) from hf)
          have HFL := Lib.hid (show (sortI (keysA s'.fr)).length ≤ 1000000 by
            obtain ⟨a, hv⟩ := HTB.out.tv
            obtain ⟨_, _, _, h3⟩ := hv.p.fr
            rw [sortI_length, keysA_length]
            have : s'.fr.length ≤ m1 + 1 + 1 + k + 1 := h3
            omega)
          have HNL := Lib.hid (show s'.copies.length ≤ 1000 by
            obtain ⟨a, hv⟩ := HTB.out.tv
            obtain ⟨_, _, _, h3⟩ := hv.p.ch
            unfold PS.copies
            rw [List.length_map, sortI_length, keysA_length]
            have : s'.ch.length ≤ m1 + 1 + 1 + k + 1 := h3
            omega)
          have HGC := Lib.hid (Grow.trans HTB.out.grow hg)
          have HSC := Lib.hid (HSB.out.trans (Spare.grow hg))
          have HCC := Lib.hid (HCB.out.grow hg)
          have HOC := Lib.hid ((hg.block TN (Array.getElem?_eq_some_iff.1 HOB.out).1).trans HOB.out)
          have HTWc := Lib.hid (show wC.heap[TW]? = some (.cells #[.int .u32 (seq : Int), .slice ac na cc, .slice ar nr cr] 41) by
            obtain ⟨S, h1, h2⟩ := HSC.out
            exact (h1.block TW HL8.out (fun hm => h2 TW hm (by rw [HPP.out]; simp))).trans HO8.out)
          have HCW := Lib.hid (show CRow wC (.slice ac na cc) s.copies from HSC.out.row HC8.out (fun g hg => by rw [HPP.out]; exact List.mem_cons_of_mem _ (ownL_mem.2 hg)))
          clear hf hg hnf HTB HSB HOB HCB HSC HC8 HO8 HL8 HT8 HPP HB HB7 HT7
          go_wp2_with fail
          obtain ⟨kk, rfl⟩ : ∃ kk : Nat, kk = k := ⟨_, rfl⟩
          obtain ⟨was, hwas⟩ : ∃ was, was = s.copies := ⟨_, rfl⟩
          obtain ⟨now, hnow⟩ : ∃ now, now = s'.copies := ⟨_, rfl⟩
          rw [← hwas] at HNA HCW HCN HWL
          rw [← hnow] at HNB HCC HCN HNL
          have HNOW := Lib.hid hnow
          clear hwas hnow
          go_loopw [18, 19] (fun t18 t19 wr => ∃ (i m : Nat), i ≤ nb ∧ m ≤ i ∧ t19 = .int .i64 (i : Int) ∧ t18 = .int .i64 (m : Int) ∧ Hid (m = (newer was (now.take i)).length) ∧ Hid (Touch [] wC wr)) (fun _ t19 _ => nb - (intOfV t19).toNat)
          case atStart => exact ⟨0, 0, by omega, by omega, rfl, rfl, Lib.hid (by simp [newer]), Lib.hid (Touch.refl _ _)⟩
          case round =>
            obtain ⟨i, m, hi, hmi, rfl, rfl, HM, HW⟩ := hrel
            have htn := (HW.out.block TN (Array.getElem?_eq_some_iff.1 HOC.out).1 (by simp)).trans HOC.out
            have p1 : wr.cell? ⟨TN, 1, none⟩ = some (.slice bc' nb cb) := cell_at htn 1
            have HTNr := Lib.hid htn
            clear htn
            have hnl : nb ≤ 1000 := by have := HNL.out; have := HNB.out; omega
            by_cases hlt : i < nb
            · obtain ⟨y, hy⟩ : ∃ y, now[i]? = some y := ⟨now[i]'(by have := HNB.out; omega), by simp⟩
              have HY := Lib.hid hy
              obtain ⟨gb, cb', hv, hgb⟩ := CRow.open_ HCC.out (by have := HNB.out; omega)
              rw [← HNB.out] at hv
              cases hv
              have HYl := Lib.hid (HCC.out.blk (List.mem_of_getElem? hy))
              go_wp2_with fail
              clear p1 hy
              go_loopw [20, 21] (fun t20 t21 ws => ∃ (j : Nat) (e : Bool), j ≤ na ∧ t21 = .int .i64 (j : Int) ∧ t20 = .bool e ∧ Hid (decide (y ∈ was.take j) = e) ∧ Hid (Touch [] wC ws)) (fun _ t21 _ => na - (intOfV t21).toNat)
              case atStart => exact ⟨0, false, by omega, rfl, rfl, Lib.hid (by simp), HW⟩
              case round =>
                obtain ⟨j, e, hj, rfl, rfl, HE, HWs⟩ := hrel
                have htw := (HWs.out.block TW (Array.getElem?_eq_some_iff.1 HTWc.out).1 (by simp)).trans HTWc.out
                have htn := (HWs.out.block TN (Array.getElem?_eq_some_iff.1 HOC.out).1 (by simp)).trans HOC.out
                have p1 : wr.cell? ⟨TW, 1, none⟩ = some (.slice ac na cc) := cell_at htw 1
                have HTWs := Lib.hid htw
                have HTNs := Lib.hid htn
                clear htw htn
                have hwl : na ≤ 1000 := by have := HWL.out; have := HNA.out; omega
                by_cases hlj : j < na
                · obtain ⟨x, hx⟩ : ∃ x, was[j]? = some x := ⟨was[j]'(by have := HNA.out; omega), by simp⟩
                  have HX := Lib.hid hx
                  have HTK := Lib.hid (show (y ∈ was.take (j + 1)) ↔ (y ∈ was.take j ∨ x = y) by
                    rw [List.take_add_one, hx, List.mem_append]
                    simp [eq_comm])
                  clear hx
                  go_upto_region 29 with (fail)
                  clear p1
                  cases e
                  · obtain ⟨ga, ca', hv, hga⟩ := CRow.open_ HCW.out (by have := HNA.out; omega)
                    rw [← HNA.out] at hv
                    cases hv
                    have HXl := Lib.hid (HCW.out.blk (List.mem_of_getElem? HX.out))
                    obtain ⟨e', he'⟩ : ∃ e', decide (x = y) = e' := ⟨_, rfl⟩
                    have HE' := Lib.hid he'
                    clear he'
                    refine little_reg29f TW TN ga gb i j na nb cc cb x y e' was now wr (Lib.hid (by omega)) (Lib.hid (by omega)) (Lib.hid (by omega)) (Lib.hid (by omega)) (Lib.hid ⟨(Array.getElem?_eq_some_iff.1 HTWs.out).1, cell_at HTWs.out 1⟩) (Lib.hid ⟨(Array.getElem?_eq_some_iff.1 HTNs.out).1, cell_at HTNs.out 1⟩) (Lib.hid (Row.kept HCW.out HWs.out (by simp))) (Lib.hid (Row.kept HCC.out HWs.out (by simp))) (Lib.hid (by rw [List.getElem?_map, HX.out]; rfl)) (Lib.hid (by rw [List.getElem?_map, HY.out]; rfl)) (Lib.hid (csizeL HXl.out)) (Lib.hid (csizeL HYl.out)) (Lib.hid fun w => by rw [eqlC x y HXl.out HYl.out w, HE'.out]) _ _ _ _ _ _ _ _ _ _ _ _ _ _ _ _ _ _ _ _ _ _ _ _ _ _ _ _ _ _ _ _ _ _ _ _ _ _ _ _ _ _ _ _ _ _ _ _ _ _ _ _ _ _ _ _ _ _ _ _ _ _ _ _ _ _ _ _ _ _ _ _ _ _ _ _ _ _ _ _ _ _ _ _ _ _ _ _ _ _ _ _ _ _ _ _ _ _ _ _ _ _ _ _ _ _ _ _ _ _ _ _ _ _ _ _ _ _ _ _ _ _ _ _ _ _ _ _ _ _ _ (Lib.hid ?hkf)
                    intro u103 u104 u105 u106 u107 u108 u109 u110 u111 u112 u113 u114 u115 wz hz
                    have HZ := Lib.hid (HWs.out.trans hz (by simp))
                    clear hz
                    go_wp2_with fail
                    go_roundw
                    case rel => exact ⟨j + 1, e', by omega, by go_num, rfl, Lib.hid (by rw [← HE'.out, decide_eq_decide, HTK.out]; exact ⟨fun h => h.resolve_left (of_decide_eq_false HE.out), .inr⟩), HZ⟩
                    case measure => simp [intOfV]; omega
                  · refine little_reg29t TW TN i j wr _ _ _ _ _ _ _ _ _ _ _ _ _ _ _ _ _ _ _ _ _ _ _ _ _ _ _ _ _ _ _ _ _ _ _ _ _ _ _ _ _ _ _ _ _ _ _ _ _ _ _ _ _ _ _ _ _ _ _ _ _ _ _ _ _ _ _ _ _ _ _ _ _ _ _ _ _ _ _ _ _ _ _ _ _ _ _ _ _ _ _ _ _ _ _ _ _ _ _ _ _ _ _ _ _ _ _ _ _ _ _ _ _ _ _ _ _ _ _ _ _ _ _ _ _ _ _ _ _ _ _ (Lib.hid ?hkt)
                    intro u103 u104 u105 u106 u107 u108 u109 u110 u111 u112 u113 u114 u115 wz hz
                    have HZ := Lib.hid (HWs.out.trans hz (by simp))
                    clear hz
                    go_wp2_with fail
                    go_roundw
                    case rel => exact ⟨j + 1, true, by omega, by go_num, rfl, Lib.hid (decide_eq_true (HTK.out.2 (.inl (of_decide_eq_true HE.out)))), HZ⟩
                    case measure => simp [intOfV]; omega
                · have HJN := Lib.hid (show j = na by omega)
                  have dj : decide ((j : Int) < (na : Int)) = false := decide_eq_false (by omega)
                  have HEA := Lib.hid (show decide (y ∈ was) = e by have := HE.out; rw [HJN.out, HNA.out, List.take_length] at this; exact this)
                  have HNT := Lib.hid (newer_take (was := was) HY.out)
                  have HQ := Lib.hid (Row.kept HCC.out HWs.out (by simp))
                  have y0 : wr.cell? ⟨gb, i * 257, none⟩ = some (.int .i64 y.1) := by
                    have := CRow.range HQ.out HY.out 0 (.int .i64 y.1) rfl
                    simpa using this
                  have p2 : wr.cell? ⟨TN, 1, none⟩ = some (.slice (some ⟨gb, 0, none⟩) nb cb) := cell_at HTNs.out 1
                  have HFr := Lib.hid (HF.out.grow HWs.out.grow)
                  have HDC := Lib.hid (disj_copy HDJ.out (c := y) (HNOW.out ▸ List.mem_of_getElem? HY.out))
                  have b0 : (0 : Int) ≤ (i : Int) := by omega
                  have b1 : (i : Int) < (nb : Int) := by omega
                  cases e
                  · have HM2 := Lib.hid (show m + 1 = (newer was (now.take (i + 1))).length by rw [HNT.out, List.length_append, if_neg (of_decide_eq_false HEA.out), ← HM.out]; rfl)
                    go_wp2_with fail
                    refine (has_ok HFr.out HFL.out y.1).mono ?_
                    rintro e w' ⟨rfl, rfl⟩
                    rw [HDC.out]
                    go_wp2_with fail
                    go_roundw
                    case rel => exact ⟨i + 1, m + 1, by omega, by omega, by go_num, by go_num, HM2, HWs⟩
                    case measure => simp [intOfV]; omega
                  · have HM2 := Lib.hid (show m = (newer was (now.take (i + 1))).length by rw [HNT.out, List.length_append, if_pos (of_decide_eq_true HEA.out), ← HM.out]; rfl)
                    go_wp2_with fail
                    refine (has_ok HFr.out HFL.out y.1).mono ?_
                    rintro e w' ⟨rfl, rfl⟩
                    rw [HDC.out]
                    go_wp2_with fail
                    go_roundw
                    case rel => exact ⟨i + 1, m, by omega, by omega, by go_num, rfl, HM2, HWs⟩
                    case measure => simp [intOfV]; omega
            · obtain rfl : i = nb := by omega
              have hle : (m : Int) ≤ c := by have h1 := HCN.out; have h2 := HM.out; rw [HNB.out, List.take_length] at h2; rw [← h2] at h1; exact h1
              have e9 : decide ((m : Int) ≤ c) = true := decide_eq_true hle
              have HGf := Lib.hid (Grow.trans HGC.out HW.out.grow)
              go_wp2_with fail
              refine (awake_ok _).mono ?_
              rintro e w' ⟨rfl, hg⟩
              have HG := Lib.hid (Grow.trans HGf.out hg)
              clear hg
              go_wp2_with fail
              go_ret
              exact ⟨rfl, HG.out⟩
#print axioms little_walk
end Go.Proofs.Ytnogajnoghjmhaa
