/- A list of committed transactions: may, the walk. -/
import Derived.Test.YtokehhegomiciaaH7
set_option linter.unusedVariables false
set_option linter.unusedSimpArgs false
namespace Go.Proofs.Ytokehhegomiciaa
open Go.RowKit Go.Maps

/-! ### the walk -/
theorem bfalse {b : Bool} {P : Prop} (h : b = true ↔ P) (hp : ¬ P) : b = false := by
  cases b with
  | false => rfl
  | true => exact absurd (h.1 rfl) hp
set_option maxRecDepth 100000 in
set_option maxHeartbeats 8000000 in
theorem may_ok {w : World} {B : Nat} {g : G4} {s : CS} {T : List Nat} {va : Value} {xs : List CV} (h : LSt w B g s T va xs) (hM : g.May) {seq : Nat} {vc vr : Value} {cs : List Cp} {rs : List Int} (hcs : CSee w vc cs) (hrs : ISee w vr rs) (hcl : cs.length ≤ 1000) (hrl : rs.length ≤ 1000) (start count : Int) {b : Bool} (hb : b = true ↔ mayP g s seq cs rs start count) :
    Calls Try.prog 31 #[.pointer (some ⟨B, 0, none⟩), .agg #[.int .u32 (seq : Int), vc, vr], .int .i64 start, .int .i64 count] w fun e w' => e = .returned (.bool b) ∧ Grow w w' := by
  have hM9 : 40 ≤ g.jr := hM.2.2.2.2.2.2.2.1
  have hM10 : g.jr ≤ 256 := hM.2.2.2.2.2.2.2.2.1
  obtain ⟨ac, cc, rfl⟩ := hcs.len
  obtain ⟨ar, cr, rfl⟩ := hrs.len
  obtain ⟨nc, hnc⟩ : ∃ nc, nc = cs.length := ⟨_, rfl⟩
  obtain ⟨nr, hnr⟩ : ∃ nr, nr = rs.length := ⟨_, rfl⟩
  rw [← hnc] at hcs hcl ⊢
  rw [← hnr] at hrs hrl ⊢
  have HNC := Lib.hid hnc
  have HNR := Lib.hid hnr
  have h0 := h.grow (Grow.alloc w (.cells #[.int .u32 (seq : Int), .slice ac nc cc, .slice ar nr cr] 39))
  have HCS := Lib.hid (hcs.grow (Grow.alloc w (.cells #[.int .u32 (seq : Int), .slice ac nc cc, .slice ar nr cr] 39)))
  have HRS := Lib.hid (hrs.grow (Grow.alloc w (.cells #[.int .u32 (seq : Int), .slice ac nc cc, .slice ar nr cr] 39)))
  have HB := Lib.hid hb
  have c4 : (w.alloc (.cells #[.int .u32 (seq : Int), .slice ac nc cc, .slice ar nr cr] 39)).cell? ⟨B, 4, none⟩ = some (.int .i64 g.jr) := cell_at h0.li.obj 4
  have HH := Lib.hid h0
  have HT := Lib.hid (heap_alloc_last w (.cells #[.int .u32 (seq : Int), .slice ac nc cc, .slice ar nr cr] 39))
  have HW0 := Lib.hid (Grow.alloc w (.cells #[.int .u32 (seq : Int), .slice ac nc cc, .slice ar nr cr] 39))
  have HMay := Lib.hid hM
  clear h h0 hcs hrs hb hnc hnr hM
  have hlen : (w.alloc (.cells #[.int .u32 (seq : Int), .slice ac nc cc, .slice ar nr cr] 39)).heap.size = w.heap.size + 1 := by simp
  have HLN := Lib.hid hlen
  clear hlen
  go_enter Try.func31, Try.ntmps31
  go_upto_region 2 with (fail)
  generalize hmo : g.jr - 1 = mo
  have HMO := Lib.hid hmo
  clear hmo
  by_cases h1 : start < 1
  · have d1 : decide (start < 1) = true := decide_eq_true h1
    have HBF := Lib.hid (bfalse HB.out (fun hp => by have h1 := hp.start; have h2 := hp.count; have h3 := HMO.out; omega))
    clear c4
    go_wp2_with fail
    go_ret
    rw [HBF.out]
    exact ⟨rfl, HW0.out⟩
  have d1 : decide (start < 1) = false := decide_eq_false h1
  by_cases h2 : start > mo
  · have d2 : decide (start > mo) = true := decide_eq_true h2
    have HBF := Lib.hid (bfalse HB.out (fun hp => by have h1 := hp.start; have h2 := hp.count; have h3 := HMO.out; omega))
    clear c4
    go_wp2_with fail
    go_ret
    rw [HBF.out]
    exact ⟨rfl, HW0.out⟩
  have d2 : decide (start > mo) = false := decide_eq_false h2
  by_cases h3 : count < 1
  · have d3 : decide (count < 1) = true := decide_eq_true h3
    have HBF := Lib.hid (bfalse HB.out (fun hp => by have h1 := hp.start; have h2 := hp.count; have h3 := HMO.out; omega))
    clear c4
    go_wp2_with fail
    go_ret
    rw [HBF.out]
    exact ⟨rfl, HW0.out⟩
  have d3 : decide (count < 1) = false := decide_eq_false h3
  by_cases h4 : count > mo
  · have d4 : decide (count > mo) = true := decide_eq_true h4
    have HBF := Lib.hid (bfalse HB.out (fun hp => by have h1 := hp.start; have h2 := hp.count; have h3 := HMO.out; omega))
    clear c4
    go_wp2_with fail
    go_ret
    rw [HBF.out]
    exact ⟨rfl, HW0.out⟩
  have d4 : decide (count > mo) = false := decide_eq_false h4
  have HSC := Lib.hid (show (1 ≤ start ∧ start ≤ g.jr - 1) ∧ (1 ≤ count ∧ count ≤ g.jr - 1) by have := HMO.out; omega)
  generalize hW0 : (w.alloc (.cells #[.int .u32 (seq : Int), .slice ac nc cc, .slice ar nr cr] 39)) = W0 at *
  clear hW0
  go_upto_region 4 with (fail)
  clear d1 d2 d3 d4 h1 h2 h3 h4 c4
  have c5 : W0.cell? ⟨B, 5, none⟩ = some (.bool s.added) := cell_at HH.out.li.obj 5
  have c6 : W0.cell? ⟨B, 6, none⟩ = some (.int .u32 (s.last : Int)) := cell_at HH.out.li.obj 6
  have t0 : W0.cell? ⟨w.heap.size, 0, none⟩ = some (.int .u32 (seq : Int)) := cell_at HT.out 0
  obtain ⟨ad, had⟩ : ∃ ad, ad = s.added := ⟨_, rfl⟩
  rw [← had] at c5
  have HAD := Lib.hid had
  clear had
  cases ad with
  | true =>
    by_cases hq : seq ≤ s.last
    · have d5 : decide ((seq : Int) ≤ (s.last : Int)) = true := by simpa using hq
      have HBF := Lib.hid (bfalse HB.out (fun hp => by have := hp.seq HAD.out.symm; omega))
      go_quiet (fail)
      have HW1 := Lib.hid (HW0.out.trans (grow_drewN W0 nq))
      generalize W0.drewN nq = W1 at *
      go_wp2_with fail
      go_ret
      rw [HBF.out]
      exact ⟨rfl, HW1.out⟩
    · have d5 : decide ((seq : Int) ≤ (s.last : Int)) = false := by simpa using hq
      have HSQ := Lib.hid (show s.added = true → s.last < seq from fun _ => by omega)
      go_quiet (fail)
      have HW1 := Lib.hid (show Grow W0 (W0.drewN nq) from grow_drewN W0 nq)
      generalize W0.drewN nq = W1 at *
      clear c5 c6 t0
      have HT1 := Lib.hid ((HW1.out.block w.heap.size (by rw [HLN.out]; omega)).trans HT.out)
      have HL1 := Lib.hid (show w.heap.size < W1.heap.size from (Array.getElem?_eq_some_iff.1 HT1.out).1)
      have HWW := Lib.hid (show Grow w W1 from HW0.out.trans HW1.out)
      have HCS1 := Lib.hid (HCS.out.grow HW1.out)
      have HRS1 := Lib.hid (HRS.out.grow HW1.out)
      have HH1 := Lib.hid (HH.out.grow HW1.out)
      have t1 : W1.cell? ⟨w.heap.size, 1, none⟩ = some (.slice ac nc cc) := cell_at HT1.out 1
      have hz40 := zero40
      have hzs40 := zsize40
      generalize hZC : (ccell zeroC).toArray = ZC at *
      have HZS := Lib.hid hzs40
      clear hZC hzs40
      go_wp2_with fail
      clear t1
      go_loopw [55] (fun t55 wr => ∃ k : Nat, t55 = .int .i64 (k : Int) ∧ k ≤ nc ∧ Hid (Grow W1 wr ∧ ∀ i, i < k → cOk g cs i)) (fun t55 _ => nc - (intOf t55).toNat)
      case atStart => exact ⟨0, by go_num, by omega, Lib.hid ⟨Grow.refl _, fun i h => absurd h (by omega)⟩⟩
      case round =>
        obtain ⟨k, rfl, hkn, HK⟩ := hrel
        by_cases hk : k < nc
        · obtain ⟨c, hc⟩ : ∃ c, cs[k]? = some c := ⟨cs[k]'(by rw [← HNC.out]; exact hk), by simp⟩
          obtain ⟨gc, oc, rfl, hgc, hrc, y0, hco⟩ := (HCS1.out.grow HK.out.1).at_ hc
          have HRC := Lib.hid hrc
          have HCO := Lib.hid hco
          have HC := Lib.hid hc
          have HSC1 := Lib.hid (csizeL hco.2)
          have HSC2 := Lib.hid (csize hco.2)
          have HSE := Lib.hid (show ZC.size = (ccell c).toArray.size by rw [HZS.out, List.size_toArray, ccell_length hco.2])
          have HOC := Lib.hid (show (ccell c).toArray.all (·.oneCell') = true from all_oneCell_toArray (ccell_one c))
          have b0 : (0 : Int) ≤ (k : Int) := by omega
          have b1 : (k : Int) < (nc : Int) := by omega
          clear hrc hco hc y0
          go_upto_region 9 with (first | (refine wpList_load_mid rfl 35 _ rfl gc (oc + k * 257) rfl (ccell c) _ HRC.out Try.underlying35 rfl HSC1.out ?_) | (refine wpList_store_row rfl 35 _ _ rfl wr.heap.size (ccell c).toArray rfl rfl 35 ZC (heap_alloc_last _ _) HSC2.out HSE.out HOC.out ?_))
          have hx2 : ((wr.alloc (.cells ZC 35)).setRow wr.heap.size (ccell c).toArray).heap[wr.heap.size]? = some (.cells (ccell c).toArray 35) := setRow_heap _ _ _ _ _ _ (heap_alloc_last _ _)
          have HG2 := Lib.hid (show Grow wr ((wr.alloc (.cells ZC 35)).setRow wr.heap.size (ccell c).toArray) from below_setRow (Grow.alloc _ _) (Nat.le_refl _) _)
          generalize ((wr.alloc (.cells ZC 35)).setRow wr.heap.size (ccell c).toArray) = W2 at *
          have HX2 := Lib.hid hx2
          have x0 : W2.cell? ⟨wr.heap.size, 0, none⟩ = some (.int .i64 c.1) := (cell_at hx2 0).trans rfl
          have HGW := Lib.hid (show Grow W1 W2 from HK.out.1.trans HG2.out)
          have t1 : W2.cell? ⟨w.heap.size, 1, none⟩ = some (.slice (some ⟨gc, oc, none⟩) nc cc) := cell_at ((HGW.out.block w.heap.size HL1.out).trans HT1.out) 1
          obtain ⟨kd, pp, qq, hkd, hki, hwh⟩ := what_g HMay.out c.1
          have HKI := Lib.hid hki
          have HWH := Lib.hid hwh
          have HKD := Lib.hid hkd
          clear hkd hki hwh hx2
          rcases k with _ | j
          · have HLE := Lib.hid (show ∀ d, 0 < 0 → cs[0 - 1]? = some d → d.1 < c.1 from fun d h => absurd h (by omega))
            go_upto_region 9 with (fail)
            refine may_reg9a 0 W2 (Lib.hid rfl) _ _ _ _ _ _ _ _ _ _ _ _ _ _ _ _ _ _ _ _ _ _ _ _ _ _ _ _ _ _ _ _ _ _ _ _ _ _ _ _ _ _ _ _ _ _ _ _ _ _ _ _ _ _ _ _ _ _ _ _ _ _ _ _ _ _ _ _ _ _ _ _ _ _ _ _ _ _ _ _ _ _ _ _ _ _ _ _ _ _ _ _ _ _ _ _ _ _ _ _ _ _ _ _ _ _ _ _ _ _ _ _ _ _ _ _ _ (Lib.hid ?hQ11)
            intro u60 u61 u62 u63 u64 u65 u66 u67 u68 u69 u70 u71 u72 W3 hR3
            have HG3 := Lib.hid (show Grow W2 W3 from hR3.below (Nat.le_refl _) (by simp))
            clear hR3
            have HGW3 := Lib.hid (show Grow W1 W3 from HGW.out.trans HG3.out)
            have HX3 := Lib.hid (show wr.heap.size < W3.heap.size ∧ W3.cell? ⟨wr.heap.size, 0, none⟩ = some (.int .i64 c.1) by
              have h := (HG3.out.block _ (Array.getElem?_eq_some_iff.1 HX2.out).1).trans HX2.out
              exact ⟨(Array.getElem?_eq_some_iff.1 h).1, (cell_at h 0).trans rfl⟩)
            have HH3 := Lib.hid (HH1.out.grow HGW3.out)
            clear x0 t1
            go_upto_region 11 with (fail)
            refine may_reg11 B wr.heap.size kd g.gr g.sz g.ni g.jr c.1 pp qq W3 (Lib.hid HH3.out.lt) (Lib.hid (cell_at HH3.out.li.obj 1)) (Lib.hid (cell_at HH3.out.li.obj 2)) (Lib.hid (cell_at HH3.out.li.obj 3)) (Lib.hid (cell_at HH3.out.li.obj 4)) HX3 HWH _ _ _ _ _ _ _ _ _ _ _ _ _ _ _ _ _ _ _ _ _ _ _ _ _ _ _ _ _ _ _ _ _ _ _ _ _ _ _ _ _ _ _ _ _ _ _ _ _ _ _ _ _ _ _ _ _ _ _ _ _ _ _ _ _ _ _ _ _ _ _ _ _ _ _ _ _ _ _ _ _ _ _ _ _ _ _ _ _ _ _ _ _ _ _ _ _ _ _ _ _ _ _ _ _ _ _ _ _ _ _ _ _ _ _ _ (Lib.hid ?hw1)
            intro u13 u14 u74 u75 u76 u77 u78 u79 u80 u81 u82 u83 u84 W4 hR4
            have HG4 := Lib.hid (show Grow W1 W4 from HGW3.out.trans (hR4.below (Nat.le_refl _) (by simp)))
            clear hR4
            by_cases hkd : kd = 0 ∨ kd = 3
            · have HBF := Lib.hid (bfalse HB.out (fun hp => (HKI.out.1 hkd) (hp.cs _ c HC.out).2))
              have HW4 := Lib.hid (show Grow w W4 from HWW.out.trans HG4.out)
              rcases hkd with rfl | rfl
              · go_wp2_with fail
                go_ret
                rw [HBF.out]
                exact ⟨rfl, HW4.out⟩
              · go_wp2_with fail
                go_ret
                rw [HBF.out]
                exact ⟨rfl, HW4.out⟩
            · have d8 : ((kd : Int) == 0) = false := by simp; omega
              have d9 : ((kd : Int) == 3) = false := by simp; omega
              have HK2 := Lib.hid (show Grow W1 W4 ∧ ∀ i, i < 0 + 1 → cOk g cs i from ⟨HG4.out, fun i hi => by
                rcases Nat.lt_or_ge i 0 with h | h
                · exact HK.out.2 i h
                · obtain rfl : i = 0 := by omega
                  intro e he
                  rw [HC.out] at he; cases he
                  exact ⟨HLE.out, Classical.not_not.1 (fun h => hkd (HKI.out.2 h))⟩⟩)
              go_wp2_with fail
              go_roundw
              case rel => exact ⟨0 + 1, by go_num, by omega, HK2⟩
              case measure => simp [intOf]; try omega
          · obtain ⟨d, hd⟩ : ∃ d, cs[j]? = some d := ⟨cs[j]'(by rw [← HNC.out]; omega), by simp⟩
            obtain ⟨gc', oc', hv', _, _, y1, _⟩ := (HCS1.out.grow HGW.out).at_ hd
            cases hv'
            have b2 : (0 : Int) < ((j + 1 : Nat) : Int) := by omega
            have b3 : (0 : Int) ≤ ((j + 1 : Nat) : Int) - 1 := by omega
            have b4 : ((j + 1 : Nat) : Int) - 1 < (nc : Int) := by omega
            have b5 : (((j + 1 : Nat) : Int) - 1).toNat = j := by omega
            have HD := Lib.hid hd
            clear hd
            by_cases hle : c.1 ≤ d.1
            · have d6 : decide (c.1 ≤ d.1) = true := decide_eq_true hle
              have HBF := Lib.hid (bfalse HB.out (fun hp => by have := (hp.cs (j + 1) c HC.out).1 d (by omega) HD.out; omega))
              go_upto_region 9 with (fail)
              refine may_reg9b wr.heap.size w.heap.size gc oc j nc cc c.1 d.1 true W2 (Lib.hid (by omega)) (Lib.hid ⟨(Array.getElem?_eq_some_iff.1 HX2.out).1, x0⟩) (Lib.hid ⟨World.block_lt_of_cell? W2 _ t1, t1⟩) (Lib.hid ⟨World.block_lt_of_cell? W2 _ y1, y1⟩) (Lib.hid d6) _ _ _ _ _ _ _ _ _ _ _ _ _ _ _ _ _ _ _ _ _ _ _ _ _ _ _ _ _ _ _ _ _ _ _ _ _ _ _ _ _ _ _ _ _ _ _ _ _ _ _ _ _ _ _ _ _ _ _ _ _ _ _ _ _ _ _ _ _ _ _ _ _ _ _ _ _ _ _ _ _ _ _ _ _ _ _ _ _ _ _ _ _ _ _ _ _ _ _ _ _ _ _ _ _ _ _ _ _ _ _ _ _ _ _ (Lib.hid ?hQ12)
              intro u60 u61 u62 u63 u64 u65 u66 u67 u68 u69 u70 u71 u72 W3 hR3
              have HW3 := Lib.hid (show Grow w W3 from HWW.out.trans (HGW.out.trans (hR3.below (Nat.le_refl _) (by simp))))
              clear hR3
              go_wp2_with fail
              go_ret
              rw [HBF.out]
              exact ⟨rfl, HW3.out⟩
            · have d6 : decide (c.1 ≤ d.1) = false := decide_eq_false hle
              have HLE := Lib.hid (show ∀ e, 0 < j + 1 → cs[j + 1 - 1]? = some e → e.1 < c.1 from fun e _ he => by rw [show j + 1 - 1 = j from rfl, HD.out] at he; cases he; omega)
              go_upto_region 9 with (fail)
              refine may_reg9b wr.heap.size w.heap.size gc oc j nc cc c.1 d.1 false W2 (Lib.hid (by omega)) (Lib.hid ⟨(Array.getElem?_eq_some_iff.1 HX2.out).1, x0⟩) (Lib.hid ⟨World.block_lt_of_cell? W2 _ t1, t1⟩) (Lib.hid ⟨World.block_lt_of_cell? W2 _ y1, y1⟩) (Lib.hid d6) _ _ _ _ _ _ _ _ _ _ _ _ _ _ _ _ _ _ _ _ _ _ _ _ _ _ _ _ _ _ _ _ _ _ _ _ _ _ _ _ _ _ _ _ _ _ _ _ _ _ _ _ _ _ _ _ _ _ _ _ _ _ _ _ _ _ _ _ _ _ _ _ _ _ _ _ _ _ _ _ _ _ _ _ _ _ _ _ _ _ _ _ _ _ _ _ _ _ _ _ _ _ _ _ _ _ _ _ _ _ _ _ _ _ _ (Lib.hid ?hQ13)
              intro u60 u61 u62 u63 u64 u65 u66 u67 u68 u69 u70 u71 u72 W3 hR3
              have HG3 := Lib.hid (show Grow W2 W3 from hR3.below (Nat.le_refl _) (by simp))
              clear hR3
              have HGW3 := Lib.hid (show Grow W1 W3 from HGW.out.trans HG3.out)
              have HX3 := Lib.hid (show wr.heap.size < W3.heap.size ∧ W3.cell? ⟨wr.heap.size, 0, none⟩ = some (.int .i64 c.1) by
                have h := (HG3.out.block _ (Array.getElem?_eq_some_iff.1 HX2.out).1).trans HX2.out
                exact ⟨(Array.getElem?_eq_some_iff.1 h).1, (cell_at h 0).trans rfl⟩)
              have HH3 := Lib.hid (HH1.out.grow HGW3.out)
              clear x0 t1
              go_upto_region 11 with (fail)
              refine may_reg11 B wr.heap.size kd g.gr g.sz g.ni g.jr c.1 pp qq W3 (Lib.hid HH3.out.lt) (Lib.hid (cell_at HH3.out.li.obj 1)) (Lib.hid (cell_at HH3.out.li.obj 2)) (Lib.hid (cell_at HH3.out.li.obj 3)) (Lib.hid (cell_at HH3.out.li.obj 4)) HX3 HWH _ _ _ _ _ _ _ _ _ _ _ _ _ _ _ _ _ _ _ _ _ _ _ _ _ _ _ _ _ _ _ _ _ _ _ _ _ _ _ _ _ _ _ _ _ _ _ _ _ _ _ _ _ _ _ _ _ _ _ _ _ _ _ _ _ _ _ _ _ _ _ _ _ _ _ _ _ _ _ _ _ _ _ _ _ _ _ _ _ _ _ _ _ _ _ _ _ _ _ _ _ _ _ _ _ _ _ _ _ _ _ _ _ _ _ _ (Lib.hid ?hw2)
              intro u13 u14 u74 u75 u76 u77 u78 u79 u80 u81 u82 u83 u84 W4 hR4
              have HG4 := Lib.hid (show Grow W1 W4 from HGW3.out.trans (hR4.below (Nat.le_refl _) (by simp)))
              clear hR4
              by_cases hkd : kd = 0 ∨ kd = 3
              · have HBF := Lib.hid (bfalse HB.out (fun hp => (HKI.out.1 hkd) (hp.cs _ c HC.out).2))
                have HW4 := Lib.hid (show Grow w W4 from HWW.out.trans HG4.out)
                rcases hkd with rfl | rfl
                · go_wp2_with fail
                  go_ret
                  rw [HBF.out]
                  exact ⟨rfl, HW4.out⟩
                · go_wp2_with fail
                  go_ret
                  rw [HBF.out]
                  exact ⟨rfl, HW4.out⟩
              · have d8 : ((kd : Int) == 0) = false := by simp; omega
                have d9 : ((kd : Int) == 3) = false := by simp; omega
                have HK2 := Lib.hid (show Grow W1 W4 ∧ ∀ i, i < (j + 1) + 1 → cOk g cs i from ⟨HG4.out, fun i hi => by
                  rcases Nat.lt_or_ge i (j + 1) with h | h
                  · exact HK.out.2 i h
                  · obtain rfl : i = (j + 1) := by omega
                    intro e he
                    rw [HC.out] at he; cases he
                    exact ⟨HLE.out, Classical.not_not.1 (fun h => hkd (HKI.out.2 h))⟩⟩)
                go_wp2_with fail
                go_roundw
                case rel => exact ⟨(j + 1) + 1, by go_num, by omega, HK2⟩
                case measure => simp [intOf]; try omega
        · obtain rfl : k = nc := by omega
          have HCA := Lib.hid (show ∀ i, cOk g cs i from fun i => by
            rcases Nat.lt_or_ge i cs.length with h | h
            · exact HK.out.2 i (by rw [HNC.out]; exact h)
            · intro c hc; rw [List.getElem?_eq_none h] at hc; cases hc)
          have t2 : wr.cell? ⟨w.heap.size, 2, none⟩ = some (.slice ar nr cr) := cell_at ((HK.out.1.block w.heap.size HL1.out).trans HT1.out) 2
          obtain ⟨wo, rfl⟩ : ∃ wo : World, wo = wr := ⟨_, rfl⟩
          go_wp2_with fail
          clear t2
          go_loopw [95] (fun t95 wr => ∃ k : Nat, t95 = .int .i64 (k : Int) ∧ k ≤ nr ∧ Hid (Grow wo wr ∧ ∀ i, i < k → rOk rs i)) (fun t95 _ => nr - (intOf t95).toNat)
          case atStart => exact ⟨0, by go_num, by omega, Lib.hid ⟨Grow.refl _, fun i h => absurd h (by omega)⟩⟩
          case round =>
            obtain ⟨k, rfl, hkr, HR⟩ := hrel
            have HGw := Lib.hid (show Grow W1 wr from HK.out.1.trans HR.out.1)
            have HGW2 := Lib.hid (show Grow w wr from HWW.out.trans HGw.out)
            by_cases hk : k < nr
            · obtain ⟨r, hr⟩ : ∃ r, rs[k]? = some r := ⟨rs[k]'(by rw [← HNR.out]; exact hk), by simp⟩
              obtain ⟨gr, or, rfl, _, y0, _⟩ := (HRS1.out.grow HGw.out).at_ hr
              have t2 : wr.cell? ⟨w.heap.size, 2, none⟩ = some (.slice (some ⟨gr, or, none⟩) nr cr) := cell_at ((HGw.out.block w.heap.size HL1.out).trans HT1.out) 2
              have b0 : (0 : Int) ≤ (k : Int) := by omega
              have b1 : (k : Int) < (nr : Int) := by omega
              have HRr := Lib.hid hr
              clear hr
              by_cases hneg : r < 0
              · have d6 : decide (r < 0) = true := decide_eq_true hneg
                have HBF := Lib.hid (bfalse HB.out (fun hp => by have := (hp.rs k r HRr.out).1; omega))
                go_wp2_with fail
                go_ret
                rw [HBF.out]
                exact ⟨rfl, HGW2.out⟩
              · have d6 : decide (r < 0) = false := decide_eq_false hneg
                rcases k with _ | j
                · have HR2 := Lib.hid (show Grow wo wr ∧ ∀ i, i < 0 + 1 → rOk rs i from ⟨HR.out.1, fun i hi => by
                    obtain rfl : i = 0 := by omega
                    intro r' hr'
                    rw [HRr.out] at hr'; cases hr'
                    exact ⟨by omega, fun d h => absurd h (by omega)⟩⟩)
                  rw [Nat.add_zero] at y0
                  go_wp2_with fail
                  go_roundw
                  case rel => exact ⟨0 + 1, by go_num, by omega, HR2⟩
                  case measure => simp [intOf]; try omega
                · obtain ⟨d, hd⟩ : ∃ d, rs[j]? = some d := ⟨rs[j]'(by rw [← HNR.out]; omega), by simp⟩
                  obtain ⟨gr', or', hv', _, y1, _⟩ := (HRS1.out.grow HGw.out).at_ hd
                  cases hv'
                  have b2 : (0 : Int) < ((j + 1 : Nat) : Int) := by omega
                  have b3 : (0 : Int) ≤ ((j + 1 : Nat) : Int) - 1 := by omega
                  have b4 : ((j + 1 : Nat) : Int) - 1 < (nr : Int) := by omega
                  have b5 : (((j + 1 : Nat) : Int) - 1).toNat = j := by omega
                  have HD := Lib.hid hd
                  clear hd
                  by_cases hle : r ≤ d
                  · have d7 : decide (r ≤ d) = true := decide_eq_true hle
                    have HBF := Lib.hid (bfalse HB.out (fun hp => by have := (hp.rs (j + 1) r HRr.out).2 d (by omega) HD.out; omega))
                    go_wp2_with fail
                    go_ret
                    rw [HBF.out]
                    exact ⟨rfl, HGW2.out⟩
                  · have d7 : decide (r ≤ d) = false := decide_eq_false hle
                    have HR2 := Lib.hid (show Grow wo wr ∧ ∀ i, i < j + 1 + 1 → rOk rs i from ⟨HR.out.1, fun i hi => by
                      rcases Nat.lt_or_ge i (j + 1) with h | h
                      · exact HR.out.2 i h
                      · obtain rfl : i = j + 1 := by omega
                        intro r' hr'
                        rw [HRr.out] at hr'; cases hr'
                        exact ⟨by omega, fun e _ he => by rw [show j + 1 - 1 = j from rfl, HD.out] at he; cases he; omega⟩⟩)
                    go_wp2_with fail
                    go_roundw
                    case rel => exact ⟨j + 1 + 1, by go_num, by omega, HR2⟩
                    case measure => simp [intOf]; try omega
            · obtain rfl : k = nr := by omega
              have HBT := Lib.hid (show b = true from HB.out.2 ⟨HSC.out.1, HSC.out.2, HSQ.out, HCA.out, fun i => by
                rcases Nat.lt_or_ge i rs.length with h | h
                · exact HR.out.2 i (by rw [HNR.out]; exact h)
                · intro c hc; rw [List.getElem?_eq_none h] at hc; cases hc⟩)
              go_wp2_with fail
              go_ret
              rw [HBT.out]
              exact ⟨rfl, HGW2.out⟩
  | false =>
    have HSQ := Lib.hid (show s.added = true → s.last < seq from fun h => by rw [← HAD.out] at h; cases h)
    go_quiet (fail)
    have HW1 := Lib.hid (show Grow W0 (W0.drewN nq) from grow_drewN W0 nq)
    generalize W0.drewN nq = W1 at *
    clear c5 c6 t0
    have HT1 := Lib.hid ((HW1.out.block w.heap.size (by rw [HLN.out]; omega)).trans HT.out)
    have HL1 := Lib.hid (show w.heap.size < W1.heap.size from (Array.getElem?_eq_some_iff.1 HT1.out).1)
    have HWW := Lib.hid (show Grow w W1 from HW0.out.trans HW1.out)
    have HCS1 := Lib.hid (HCS.out.grow HW1.out)
    have HRS1 := Lib.hid (HRS.out.grow HW1.out)
    have HH1 := Lib.hid (HH.out.grow HW1.out)
    have t1 : W1.cell? ⟨w.heap.size, 1, none⟩ = some (.slice ac nc cc) := cell_at HT1.out 1
    have hz40 := zero40
    have hzs40 := zsize40
    generalize hZC : (ccell zeroC).toArray = ZC at *
    have HZS := Lib.hid hzs40
    clear hZC hzs40
    go_wp2_with fail
    clear t1
    go_loopw [55] (fun t55 wr => ∃ k : Nat, t55 = .int .i64 (k : Int) ∧ k ≤ nc ∧ Hid (Grow W1 wr ∧ ∀ i, i < k → cOk g cs i)) (fun t55 _ => nc - (intOf t55).toNat)
    case atStart => exact ⟨0, by go_num, by omega, Lib.hid ⟨Grow.refl _, fun i h => absurd h (by omega)⟩⟩
    case round =>
      obtain ⟨k, rfl, hkn, HK⟩ := hrel
      by_cases hk : k < nc
      · obtain ⟨c, hc⟩ : ∃ c, cs[k]? = some c := ⟨cs[k]'(by rw [← HNC.out]; exact hk), by simp⟩
        obtain ⟨gc, oc, rfl, hgc, hrc, y0, hco⟩ := (HCS1.out.grow HK.out.1).at_ hc
        have HRC := Lib.hid hrc
        have HCO := Lib.hid hco
        have HC := Lib.hid hc
        have HSC1 := Lib.hid (csizeL hco.2)
        have HSC2 := Lib.hid (csize hco.2)
        have HSE := Lib.hid (show ZC.size = (ccell c).toArray.size by rw [HZS.out, List.size_toArray, ccell_length hco.2])
        have HOC := Lib.hid (show (ccell c).toArray.all (·.oneCell') = true from all_oneCell_toArray (ccell_one c))
        have b0 : (0 : Int) ≤ (k : Int) := by omega
        have b1 : (k : Int) < (nc : Int) := by omega
        clear hrc hco hc y0
        go_upto_region 9 with (first | (refine wpList_load_mid rfl 35 _ rfl gc (oc + k * 257) rfl (ccell c) _ HRC.out Try.underlying35 rfl HSC1.out ?_) | (refine wpList_store_row rfl 35 _ _ rfl wr.heap.size (ccell c).toArray rfl rfl 35 ZC (heap_alloc_last _ _) HSC2.out HSE.out HOC.out ?_))
        have hx2 : ((wr.alloc (.cells ZC 35)).setRow wr.heap.size (ccell c).toArray).heap[wr.heap.size]? = some (.cells (ccell c).toArray 35) := setRow_heap _ _ _ _ _ _ (heap_alloc_last _ _)
        have HG2 := Lib.hid (show Grow wr ((wr.alloc (.cells ZC 35)).setRow wr.heap.size (ccell c).toArray) from below_setRow (Grow.alloc _ _) (Nat.le_refl _) _)
        generalize ((wr.alloc (.cells ZC 35)).setRow wr.heap.size (ccell c).toArray) = W2 at *
        have HX2 := Lib.hid hx2
        have x0 : W2.cell? ⟨wr.heap.size, 0, none⟩ = some (.int .i64 c.1) := (cell_at hx2 0).trans rfl
        have HGW := Lib.hid (show Grow W1 W2 from HK.out.1.trans HG2.out)
        have t1 : W2.cell? ⟨w.heap.size, 1, none⟩ = some (.slice (some ⟨gc, oc, none⟩) nc cc) := cell_at ((HGW.out.block w.heap.size HL1.out).trans HT1.out) 1
        obtain ⟨kd, pp, qq, hkd, hki, hwh⟩ := what_g HMay.out c.1
        have HKI := Lib.hid hki
        have HWH := Lib.hid hwh
        have HKD := Lib.hid hkd
        clear hkd hki hwh hx2
        rcases k with _ | j
        · have HLE := Lib.hid (show ∀ d, 0 < 0 → cs[0 - 1]? = some d → d.1 < c.1 from fun d h => absurd h (by omega))
          go_upto_region 9 with (fail)
          refine may_reg9a 0 W2 (Lib.hid rfl) _ _ _ _ _ _ _ _ _ _ _ _ _ _ _ _ _ _ _ _ _ _ _ _ _ _ _ _ _ _ _ _ _ _ _ _ _ _ _ _ _ _ _ _ _ _ _ _ _ _ _ _ _ _ _ _ _ _ _ _ _ _ _ _ _ _ _ _ _ _ _ _ _ _ _ _ _ _ _ _ _ _ _ _ _ _ _ _ _ _ _ _ _ _ _ _ _ _ _ _ _ _ _ _ _ _ _ _ _ _ _ _ _ _ _ _ _ (Lib.hid ?hQ21)
          intro u60 u61 u62 u63 u64 u65 u66 u67 u68 u69 u70 u71 u72 W3 hR3
          have HG3 := Lib.hid (show Grow W2 W3 from hR3.below (Nat.le_refl _) (by simp))
          clear hR3
          have HGW3 := Lib.hid (show Grow W1 W3 from HGW.out.trans HG3.out)
          have HX3 := Lib.hid (show wr.heap.size < W3.heap.size ∧ W3.cell? ⟨wr.heap.size, 0, none⟩ = some (.int .i64 c.1) by
            have h := (HG3.out.block _ (Array.getElem?_eq_some_iff.1 HX2.out).1).trans HX2.out
            exact ⟨(Array.getElem?_eq_some_iff.1 h).1, (cell_at h 0).trans rfl⟩)
          have HH3 := Lib.hid (HH1.out.grow HGW3.out)
          clear x0 t1
          go_upto_region 11 with (fail)
          refine may_reg11 B wr.heap.size kd g.gr g.sz g.ni g.jr c.1 pp qq W3 (Lib.hid HH3.out.lt) (Lib.hid (cell_at HH3.out.li.obj 1)) (Lib.hid (cell_at HH3.out.li.obj 2)) (Lib.hid (cell_at HH3.out.li.obj 3)) (Lib.hid (cell_at HH3.out.li.obj 4)) HX3 HWH _ _ _ _ _ _ _ _ _ _ _ _ _ _ _ _ _ _ _ _ _ _ _ _ _ _ _ _ _ _ _ _ _ _ _ _ _ _ _ _ _ _ _ _ _ _ _ _ _ _ _ _ _ _ _ _ _ _ _ _ _ _ _ _ _ _ _ _ _ _ _ _ _ _ _ _ _ _ _ _ _ _ _ _ _ _ _ _ _ _ _ _ _ _ _ _ _ _ _ _ _ _ _ _ _ _ _ _ _ _ _ _ _ _ _ _ (Lib.hid ?hw3)
          intro u13 u14 u74 u75 u76 u77 u78 u79 u80 u81 u82 u83 u84 W4 hR4
          have HG4 := Lib.hid (show Grow W1 W4 from HGW3.out.trans (hR4.below (Nat.le_refl _) (by simp)))
          clear hR4
          by_cases hkd : kd = 0 ∨ kd = 3
          · have HBF := Lib.hid (bfalse HB.out (fun hp => (HKI.out.1 hkd) (hp.cs _ c HC.out).2))
            have HW4 := Lib.hid (show Grow w W4 from HWW.out.trans HG4.out)
            rcases hkd with rfl | rfl
            · go_wp2_with fail
              go_ret
              rw [HBF.out]
              exact ⟨rfl, HW4.out⟩
            · go_wp2_with fail
              go_ret
              rw [HBF.out]
              exact ⟨rfl, HW4.out⟩
          · have d8 : ((kd : Int) == 0) = false := by simp; omega
            have d9 : ((kd : Int) == 3) = false := by simp; omega
            have HK2 := Lib.hid (show Grow W1 W4 ∧ ∀ i, i < 0 + 1 → cOk g cs i from ⟨HG4.out, fun i hi => by
              rcases Nat.lt_or_ge i 0 with h | h
              · exact HK.out.2 i h
              · obtain rfl : i = 0 := by omega
                intro e he
                rw [HC.out] at he; cases he
                exact ⟨HLE.out, Classical.not_not.1 (fun h => hkd (HKI.out.2 h))⟩⟩)
            go_wp2_with fail
            go_roundw
            case rel => exact ⟨0 + 1, by go_num, by omega, HK2⟩
            case measure => simp [intOf]; try omega
        · obtain ⟨d, hd⟩ : ∃ d, cs[j]? = some d := ⟨cs[j]'(by rw [← HNC.out]; omega), by simp⟩
          obtain ⟨gc', oc', hv', _, _, y1, _⟩ := (HCS1.out.grow HGW.out).at_ hd
          cases hv'
          have b2 : (0 : Int) < ((j + 1 : Nat) : Int) := by omega
          have b3 : (0 : Int) ≤ ((j + 1 : Nat) : Int) - 1 := by omega
          have b4 : ((j + 1 : Nat) : Int) - 1 < (nc : Int) := by omega
          have b5 : (((j + 1 : Nat) : Int) - 1).toNat = j := by omega
          have HD := Lib.hid hd
          clear hd
          by_cases hle : c.1 ≤ d.1
          · have d6 : decide (c.1 ≤ d.1) = true := decide_eq_true hle
            have HBF := Lib.hid (bfalse HB.out (fun hp => by have := (hp.cs (j + 1) c HC.out).1 d (by omega) HD.out; omega))
            go_upto_region 9 with (fail)
            refine may_reg9b wr.heap.size w.heap.size gc oc j nc cc c.1 d.1 true W2 (Lib.hid (by omega)) (Lib.hid ⟨(Array.getElem?_eq_some_iff.1 HX2.out).1, x0⟩) (Lib.hid ⟨World.block_lt_of_cell? W2 _ t1, t1⟩) (Lib.hid ⟨World.block_lt_of_cell? W2 _ y1, y1⟩) (Lib.hid d6) _ _ _ _ _ _ _ _ _ _ _ _ _ _ _ _ _ _ _ _ _ _ _ _ _ _ _ _ _ _ _ _ _ _ _ _ _ _ _ _ _ _ _ _ _ _ _ _ _ _ _ _ _ _ _ _ _ _ _ _ _ _ _ _ _ _ _ _ _ _ _ _ _ _ _ _ _ _ _ _ _ _ _ _ _ _ _ _ _ _ _ _ _ _ _ _ _ _ _ _ _ _ _ _ _ _ _ _ _ _ _ _ _ _ _ (Lib.hid ?hQ22)
            intro u60 u61 u62 u63 u64 u65 u66 u67 u68 u69 u70 u71 u72 W3 hR3
            have HW3 := Lib.hid (show Grow w W3 from HWW.out.trans (HGW.out.trans (hR3.below (Nat.le_refl _) (by simp))))
            clear hR3
            go_wp2_with fail
            go_ret
            rw [HBF.out]
            exact ⟨rfl, HW3.out⟩
          · have d6 : decide (c.1 ≤ d.1) = false := decide_eq_false hle
            have HLE := Lib.hid (show ∀ e, 0 < j + 1 → cs[j + 1 - 1]? = some e → e.1 < c.1 from fun e _ he => by rw [show j + 1 - 1 = j from rfl, HD.out] at he; cases he; omega)
            go_upto_region 9 with (fail)
            refine may_reg9b wr.heap.size w.heap.size gc oc j nc cc c.1 d.1 false W2 (Lib.hid (by omega)) (Lib.hid ⟨(Array.getElem?_eq_some_iff.1 HX2.out).1, x0⟩) (Lib.hid ⟨World.block_lt_of_cell? W2 _ t1, t1⟩) (Lib.hid ⟨World.block_lt_of_cell? W2 _ y1, y1⟩) (Lib.hid d6) _ _ _ _ _ _ _ _ _ _ _ _ _ _ _ _ _ _ _ _ _ _ _ _ _ _ _ _ _ _ _ _ _ _ _ _ _ _ _ _ _ _ _ _ _ _ _ _ _ _ _ _ _ _ _ _ _ _ _ _ _ _ _ _ _ _ _ _ _ _ _ _ _ _ _ _ _ _ _ _ _ _ _ _ _ _ _ _ _ _ _ _ _ _ _ _ _ _ _ _ _ _ _ _ _ _ _ _ _ _ _ _ _ _ _ (Lib.hid ?hQ23)
            intro u60 u61 u62 u63 u64 u65 u66 u67 u68 u69 u70 u71 u72 W3 hR3
            have HG3 := Lib.hid (show Grow W2 W3 from hR3.below (Nat.le_refl _) (by simp))
            clear hR3
            have HGW3 := Lib.hid (show Grow W1 W3 from HGW.out.trans HG3.out)
            have HX3 := Lib.hid (show wr.heap.size < W3.heap.size ∧ W3.cell? ⟨wr.heap.size, 0, none⟩ = some (.int .i64 c.1) by
              have h := (HG3.out.block _ (Array.getElem?_eq_some_iff.1 HX2.out).1).trans HX2.out
              exact ⟨(Array.getElem?_eq_some_iff.1 h).1, (cell_at h 0).trans rfl⟩)
            have HH3 := Lib.hid (HH1.out.grow HGW3.out)
            clear x0 t1
            go_upto_region 11 with (fail)
            refine may_reg11 B wr.heap.size kd g.gr g.sz g.ni g.jr c.1 pp qq W3 (Lib.hid HH3.out.lt) (Lib.hid (cell_at HH3.out.li.obj 1)) (Lib.hid (cell_at HH3.out.li.obj 2)) (Lib.hid (cell_at HH3.out.li.obj 3)) (Lib.hid (cell_at HH3.out.li.obj 4)) HX3 HWH _ _ _ _ _ _ _ _ _ _ _ _ _ _ _ _ _ _ _ _ _ _ _ _ _ _ _ _ _ _ _ _ _ _ _ _ _ _ _ _ _ _ _ _ _ _ _ _ _ _ _ _ _ _ _ _ _ _ _ _ _ _ _ _ _ _ _ _ _ _ _ _ _ _ _ _ _ _ _ _ _ _ _ _ _ _ _ _ _ _ _ _ _ _ _ _ _ _ _ _ _ _ _ _ _ _ _ _ _ _ _ _ _ _ _ _ (Lib.hid ?hw4)
            intro u13 u14 u74 u75 u76 u77 u78 u79 u80 u81 u82 u83 u84 W4 hR4
            have HG4 := Lib.hid (show Grow W1 W4 from HGW3.out.trans (hR4.below (Nat.le_refl _) (by simp)))
            clear hR4
            by_cases hkd : kd = 0 ∨ kd = 3
            · have HBF := Lib.hid (bfalse HB.out (fun hp => (HKI.out.1 hkd) (hp.cs _ c HC.out).2))
              have HW4 := Lib.hid (show Grow w W4 from HWW.out.trans HG4.out)
              rcases hkd with rfl | rfl
              · go_wp2_with fail
                go_ret
                rw [HBF.out]
                exact ⟨rfl, HW4.out⟩
              · go_wp2_with fail
                go_ret
                rw [HBF.out]
                exact ⟨rfl, HW4.out⟩
            · have d8 : ((kd : Int) == 0) = false := by simp; omega
              have d9 : ((kd : Int) == 3) = false := by simp; omega
              have HK2 := Lib.hid (show Grow W1 W4 ∧ ∀ i, i < (j + 1) + 1 → cOk g cs i from ⟨HG4.out, fun i hi => by
                rcases Nat.lt_or_ge i (j + 1) with h | h
                · exact HK.out.2 i h
                · obtain rfl : i = (j + 1) := by omega
                  intro e he
                  rw [HC.out] at he; cases he
                  exact ⟨HLE.out, Classical.not_not.1 (fun h => hkd (HKI.out.2 h))⟩⟩)
              go_wp2_with fail
              go_roundw
              case rel => exact ⟨(j + 1) + 1, by go_num, by omega, HK2⟩
              case measure => simp [intOf]; try omega
      · obtain rfl : k = nc := by omega
        have HCA := Lib.hid (show ∀ i, cOk g cs i from fun i => by
          rcases Nat.lt_or_ge i cs.length with h | h
          · exact HK.out.2 i (by rw [HNC.out]; exact h)
          · intro c hc; rw [List.getElem?_eq_none h] at hc; cases hc)
        have t2 : wr.cell? ⟨w.heap.size, 2, none⟩ = some (.slice ar nr cr) := cell_at ((HK.out.1.block w.heap.size HL1.out).trans HT1.out) 2
        obtain ⟨wo, rfl⟩ : ∃ wo : World, wo = wr := ⟨_, rfl⟩
        go_wp2_with fail
        clear t2
        go_loopw [95] (fun t95 wr => ∃ k : Nat, t95 = .int .i64 (k : Int) ∧ k ≤ nr ∧ Hid (Grow wo wr ∧ ∀ i, i < k → rOk rs i)) (fun t95 _ => nr - (intOf t95).toNat)
        case atStart => exact ⟨0, by go_num, by omega, Lib.hid ⟨Grow.refl _, fun i h => absurd h (by omega)⟩⟩
        case round =>
          obtain ⟨k, rfl, hkr, HR⟩ := hrel
          have HGw := Lib.hid (show Grow W1 wr from HK.out.1.trans HR.out.1)
          have HGW2 := Lib.hid (show Grow w wr from HWW.out.trans HGw.out)
          by_cases hk : k < nr
          · obtain ⟨r, hr⟩ : ∃ r, rs[k]? = some r := ⟨rs[k]'(by rw [← HNR.out]; exact hk), by simp⟩
            obtain ⟨gr, or, rfl, _, y0, _⟩ := (HRS1.out.grow HGw.out).at_ hr
            have t2 : wr.cell? ⟨w.heap.size, 2, none⟩ = some (.slice (some ⟨gr, or, none⟩) nr cr) := cell_at ((HGw.out.block w.heap.size HL1.out).trans HT1.out) 2
            have b0 : (0 : Int) ≤ (k : Int) := by omega
            have b1 : (k : Int) < (nr : Int) := by omega
            have HRr := Lib.hid hr
            clear hr
            by_cases hneg : r < 0
            · have d6 : decide (r < 0) = true := decide_eq_true hneg
              have HBF := Lib.hid (bfalse HB.out (fun hp => by have := (hp.rs k r HRr.out).1; omega))
              go_wp2_with fail
              go_ret
              rw [HBF.out]
              exact ⟨rfl, HGW2.out⟩
            · have d6 : decide (r < 0) = false := decide_eq_false hneg
              rcases k with _ | j
              · have HR2 := Lib.hid (show Grow wo wr ∧ ∀ i, i < 0 + 1 → rOk rs i from ⟨HR.out.1, fun i hi => by
                  obtain rfl : i = 0 := by omega
                  intro r' hr'
                  rw [HRr.out] at hr'; cases hr'
                  exact ⟨by omega, fun d h => absurd h (by omega)⟩⟩)
                rw [Nat.add_zero] at y0
                go_wp2_with fail
                go_roundw
                case rel => exact ⟨0 + 1, by go_num, by omega, HR2⟩
                case measure => simp [intOf]; try omega
              · obtain ⟨d, hd⟩ : ∃ d, rs[j]? = some d := ⟨rs[j]'(by rw [← HNR.out]; omega), by simp⟩
                obtain ⟨gr', or', hv', _, y1, _⟩ := (HRS1.out.grow HGw.out).at_ hd
                cases hv'
                have b2 : (0 : Int) < ((j + 1 : Nat) : Int) := by omega
                have b3 : (0 : Int) ≤ ((j + 1 : Nat) : Int) - 1 := by omega
                have b4 : ((j + 1 : Nat) : Int) - 1 < (nr : Int) := by omega
                have b5 : (((j + 1 : Nat) : Int) - 1).toNat = j := by omega
                have HD := Lib.hid hd
                clear hd
                by_cases hle : r ≤ d
                · have d7 : decide (r ≤ d) = true := decide_eq_true hle
                  have HBF := Lib.hid (bfalse HB.out (fun hp => by have := (hp.rs (j + 1) r HRr.out).2 d (by omega) HD.out; omega))
                  go_wp2_with fail
                  go_ret
                  rw [HBF.out]
                  exact ⟨rfl, HGW2.out⟩
                · have d7 : decide (r ≤ d) = false := decide_eq_false hle
                  have HR2 := Lib.hid (show Grow wo wr ∧ ∀ i, i < j + 1 + 1 → rOk rs i from ⟨HR.out.1, fun i hi => by
                    rcases Nat.lt_or_ge i (j + 1) with h | h
                    · exact HR.out.2 i h
                    · obtain rfl : i = j + 1 := by omega
                      intro r' hr'
                      rw [HRr.out] at hr'; cases hr'
                      exact ⟨by omega, fun e _ he => by rw [show j + 1 - 1 = j from rfl, HD.out] at he; cases he; omega⟩⟩)
                  go_wp2_with fail
                  go_roundw
                  case rel => exact ⟨j + 1 + 1, by go_num, by omega, HR2⟩
                  case measure => simp [intOf]; try omega
          · obtain rfl : k = nr := by omega
            have HBT := Lib.hid (show b = true from HB.out.2 ⟨HSC.out.1, HSC.out.2, HSQ.out, HCA.out, fun i => by
              rcases Nat.lt_or_ge i rs.length with h | h
              · exact HR.out.2 i (by rw [HNR.out]; exact h)
              · intro c hc; rw [List.getElem?_eq_none h] at hc; cases hc⟩)
            go_wp2_with fail
            go_ret
            rw [HBT.out]
            exact ⟨rfl, HGW2.out⟩
#print axioms may_ok
end Go.Proofs.Ytokehhegomiciaa
