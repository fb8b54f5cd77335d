/- The law ChkptOrder: the walk. -/
import Derived.Test.YtokehhegomiciaaH21
set_option linter.unusedVariables false
set_option linter.unusedSimpArgs false
namespace Go.Proofs.Ytokehhegomiciaa
open Go.RowKit Go.Maps

set_option maxRecDepth 100000 in
set_option maxHeartbeats 8000000 in
theorem order_walk {W : World} {v : Value} {l : List AV} (g : G4) (hA : ASee W v l) (hl : l.length ≤ 9223372036854775807) (hcl : ∀ x ∈ l, x.cs.length ≤ 9223372036854775807 ∧ x.rs.length ≤ 9223372036854775807) (seq : Nat) (hs : seq < 4294967296) (a b : Int) (ha : IntOk a) (hb : IntOk b) :
    Calls Try.prog 3 #[.agg #[.int .i64 g.gr, .int .i64 g.sz, .int .i64 g.ni, .int .i64 g.jr], v, .int .u32 (seq : Int), .int .i64 a, .int .i64 b] W fun e w' => e = .returned (.bool true) ∧ Grow W w' := by
  have HA := Lib.hid hA
  have HGR := Lib.hid (show ∀ w, Grow W w → Calls Try.prog 8 #[v] w fun e w' => ∃ b, e = .returned (.bool b) ∧ Grow w w' ∧ (b = false → Small l) from fun w hg => great_ok (hA.grow hg) hl hcl)
  have HIA := Lib.hid ha
  have HIB := Lib.hid hb
  have HSQ := Lib.hid hs
  clear hA hl hcl ha hb hs
  go_enter Try.func3, Try.ntmps3
  go_wp2_with fail
  refine (HGR.out _ (Grow.alloc _ _)).mono ?_
  intro e w1 hp
  obtain ⟨gb, rfl, hg1, hsm⟩ := hp
  have HG1 := Lib.hid hg1
  have HSM := Lib.hid hsm
  have h5 := (hg1.block W.heap.size (by simp)).trans (heap_alloc_last W _)
  have k0 := cell_at h5 0
  have k1 := cell_at h5 1
  have k2 := cell_at h5 2
  have k3 := cell_at h5 3
  simp only [List.getElem?_toArray, List.getElem?_cons_zero, List.getElem?_cons_succ] at k0 k1 k2 k3
  have H5 := Lib.hid h5
  clear hg1 hsm h5
  cases gb with
  | true =>
    go_wp2_with fail
    go_ret
    exact ⟨rfl, (Grow.alloc _ _).trans HG1.out⟩
  | false =>
    have HS := Lib.hid (HSM.out rfl)
    have HGW1 := Lib.hid (show Grow W w1 from (Grow.alloc _ _).trans HG1.out)
    go_wp2_with fail
    refine (added_ok (g := g) (HA.out.grow HGW1.out) HS.out).mono ?_
    intro e w2 hp
    rcases hp with ⟨hM, rfl, hg2⟩ | ⟨hM, B, T, vt, rfl, hinv⟩
    · have HG2 := Lib.hid (HGW1.out.trans hg2)
      clear k0 k1 k2 k3 hg2
      go_wp2_with fail
      refine (awake_ok _).mono ?_
      intro e w3 hp
      obtain ⟨rfl, hg3⟩ := hp
      have HG3 := Lib.hid (HG2.out.trans hg3)
      clear hg3
      go_wp2_with fail
      go_ret
      exact ⟨rfl, HG3.out⟩
    · have HM := Lib.hid hM
      have HI := Lib.hid hinv
      obtain ⟨va, xs, hls⟩ := hinv.ls
      rw [List.take_length] at hls
      have HL2 := Lib.hid hls
      have HR2 := Lib.hid (show ARow w2 vt (runA g l).2 by have := hinv.row; rwa [List.take_length] at this)
      have HG2 := Lib.hid (show Grow W w2 from HGW1.out.trans hinv.grow)
      have H52 := Lib.hid ((hinv.grow.block W.heap.size (by have := HG1.out.size; simp at this; omega)).trans H5.out)
      have hri := runA_inv g l
      have hn60 : (runA g l).2.length ≤ 60 := Nat.le_trans hri.2.length_le HS.out.1
      have HNL := Lib.hid hri.1
      have HLA := Lib.hid (runA_last g l)
      have HOM := Lib.hid (fun (za zb : Blk) => order_may hM l seq a b za zb)
      generalize (runA g l).1 = s at *
      generalize (runA g l).2 = tk at *
      clear k0 k1 k2 k3 hls hinv hri hM
      go_wp2_with fail
      refine (len_ok HL2.out).mono ?_
      rintro e w' ⟨rfl, rfl⟩
      obtain ⟨bm, hbm⟩ : ∃ bm : Bool, (bm = true ↔ mayP g s seq [(a, zeroB), (b, zeroB)] [] 1 1) := by
        by_cases hc : mayP g s seq [(a, zeroB), (b, zeroB)] [] 1 1
        · exact ⟨true, ⟨fun _ => hc, fun _ => rfl⟩⟩
        · exact ⟨false, ⟨fun h => (by cases h), fun h => absurd h hc⟩⟩
      have HBM := Lib.hid hbm
      have HCA := Lib.hid (show CpOk (a, zeroB) from ⟨HIA.out, zeroB_ok⟩)
      have HCB := Lib.hid (show CpOk (b, zeroB) from ⟨HIB.out, zeroB_ok⟩)
      have HBA := Lib.hid (built_copy1 a)
      have HBB := Lib.hid (built_copy1 b)
      obtain ⟨nl, hnl⟩ : ∃ nl, nl = s.all.length := ⟨_, rfl⟩
      rw [← hnl]
      have HNE := Lib.hid hnl
      have hn1 : nl ≤ 60 := by rw [hnl, HNL.out]; exact hn60
      clear hbm hnl
      go_upto_region 8 with (first | (refine wpList_buildE rfl 35 _ rfl (ccell (a, zeroB)).toArray (by simp only [List.map_toArray, List.map_cons, List.map_nil]; exact HBA.out) ?_) | (refine wpList_buildE rfl 35 _ rfl (ccell (b, zeroB)).toArray (by simp only [List.map_toArray, List.map_cons, List.map_nil]; exact HBB.out) ?_) | (refine wpList_bs_see2 rfl _ _ rfl (a, zeroB) (b, zeroB) HCA.out HCB.out rfl rfl ?_; intro w3 g3 hs3 hg3 hl3))
      have HG3 := Lib.hid (show Grow w2 (w3.alloc (.cells #[.int .u32 (seq : Int), .slice (some ⟨g3, 0, none⟩) 2 2, .slice none 0 0] 39)) from hg3.trans (Grow.alloc _ _))
      have HS3 := Lib.hid (hs3.grow (Grow.alloc w3 (.cells #[.int .u32 (seq : Int), .slice (some ⟨g3, 0, none⟩) 2 2, .slice none 0 0] 39)))
      have HT := Lib.hid (heap_alloc_last w3 (.cells #[.int .u32 (seq : Int), .slice (some ⟨g3, 0, none⟩) 2 2, .slice none 0 0] 39))
      obtain ⟨t3, ht3⟩ : ∃ t3, t3 = w3.heap.size := ⟨_, rfl⟩
      rw [← ht3] at HT ⊢
      clear hs3 hg3 hl3 ht3
      generalize w3.alloc (.cells #[.int .u32 (seq : Int), .slice (some ⟨g3, 0, none⟩) 2 2, .slice none 0 0] 39) = w4 at *
      have k0 := cell_at HT.out 0
      have k1 := cell_at HT.out 1
      have k2 := cell_at HT.out 2
      simp only [List.getElem?_toArray, List.getElem?_cons_zero, List.getElem?_cons_succ] at k0 k1 k2
      go_wp2_with fail
      refine (add_ok (rs := []) (HL2.out.grow HG3.out) (fun q hq => Nat.lt_of_lt_of_le (HI.out.lo q hq).2 HG3.out.size) HM.out HS3.out ⟨see_none _ _, by simp⟩ (by simp) (by simp) HSQ.out (by unfold IntOk; omega) (by unfold IntOk; omega) (by intro k hk; cases hk) (by rw [← HNE.out]; omega) HBM.out).mono ?_
      intro e w5 hp
      unfold AddPost at hp
      obtain ⟨rfl, ⟨T5, va5, xs5, hl5, hT5, hTl5⟩, ht5⟩ := hp
      have HL5 := Lib.hid hl5
      have HG5 := Lib.hid (show Grow w1 w5 from Below.trans (HI.out.grow.trans HG3.out) (ht5.below (HI.out.grow.trans HG3.out).size (fun q hq => (HI.out.lo q hq).1)))
      have HR5 := Lib.hid (show ARow w5 vt tk from by
        have := HR2.out
        unfold ARow at this ⊢
        exact Row.kept (Row.kept (S := []) this (Touch.of_below HG3.out) (by simp)) ht5 (fun q hq => (HI.out.vt q hq).2))
      have h52 := (HG5.out.block W.heap.size (by have := HG1.out.size; simp at this; omega)).trans H5.out
      have q0 := cell_at h52 0
      have q1 := cell_at h52 1
      have q2 := cell_at h52 2
      have q3 := cell_at h52 3
      simp only [List.getElem?_toArray, List.getElem?_cons_zero, List.getElem?_cons_succ] at q0 q1 q2 q3
      have HGW5 := Lib.hid (HGW1.out.trans HG5.out)
      have H55 := Lib.hid h52
      clear hl5 hT5 hTl5 ht5 k0 k1 k2 h52 HT HS3 HCA HCB HBA HBB HL2 HR2 H52 H5 HI
      obtain ⟨cb, hcb⟩ : ∃ cb, decide (a < b) = cb := ⟨_, rfl⟩
      obtain ⟨wa, hwa⟩ : ∃ wa : Bool, (wa = true ↔ inG g a) := by classical exact ⟨decide (inG g a), by simp⟩
      obtain ⟨wb, hwb⟩ : ∃ wb : Bool, (wb = true ↔ inG g b) := by classical exact ⟨decide (inG g b), by simp⟩
      have HWA := Lib.hid (fun w => within_ok HM.out a w hwa)
      have HWB := Lib.hid (fun w => within_ok HM.out b w hwb)
      have HAB := Lib.hid (show bm = true ↔ (s.added = true → s.last < seq) ∧ cb = true ∧ wa = true ∧ wb = true by
        rw [HBM.out, HOM.out zeroB zeroB, hwa, hwb, ← hcb, decide_eq_true_iff])
      clear hwa hwb HBM HOM HM
      obtain ⟨av, cv, hv5⟩ := Row.len HR5.out
      rw [List.length_map] at hv5
      rcases HLA.out with ⟨htk, hadd⟩ | ⟨m, x, hx, hlen, hadd, hlast⟩
      · rw [htk] at hv5
        subst hv5
        have HFU := Lib.hid (show s.added = true → s.last < seq from fun h => by rw [hadd] at h; cases h)
        clear HLA HR5 htk hadd
        rw [List.length_nil]
        cases cb with
        | false =>
          have hb0 : bm = false := bfalse HAB.out (fun h => by simpa using h.2.1)
          subst hb0
          have HL6 := Lib.hid (show LSt w5 B g s T5 va5 xs5 from HL5.out)
          clear HL5 HAB
          rw [show addE false = 2 from rfl]
          have HGX := Lib.hid HGW5.out
          have HGN := Lib.hid (Grow.refl w5)
          go_wp2_with fail
          refine (len_ok (HL6.out.grow HGN.out)).mono ?_
          rintro e w' ⟨rfl, rfl⟩
          rw [← HNE.out]
          go_wp2_with fail
          refine (awake_ok _).mono ?_
          intro e w9 hp
          obtain ⟨rfl, hg9⟩ := hp
          have HG9 := Lib.hid (HGX.out.trans hg9)
          clear hg9
          go_wp2_with fail
          go_ret
          exact ⟨rfl, HG9.out⟩
        | true =>
          cases wa with
          | false =>
            have hb0 : bm = false := bfalse HAB.out (fun h => by simpa using h.2.2.1)
            subst hb0
            have HL6 := Lib.hid (show LSt w5 B g s T5 va5 xs5 from HL5.out)
            clear HL5 HAB
            rw [show addE false = 2 from rfl]
            have HGX := Lib.hid HGW5.out
            have HGN := Lib.hid (Grow.refl w5)
            go_wp2_with fail
            refine (HWA.out _).mono ?_
            intro e wx6 hp
            obtain ⟨rfl, hgx⟩ := hp
            have HGX := Lib.hid (HGX.out.trans hgx)
            have HGN := Lib.hid (HGN.out.trans hgx)
            have hb6 := (HGN.out.block W.heap.size (by have := HG5.out.size; have := HG1.out.size; simp at this; omega)).trans H55.out
            have p60 := cell_at hb6 0
            have p61 := cell_at hb6 1
            have p62 := cell_at hb6 2
            have p63 := cell_at hb6 3
            simp only [List.getElem?_toArray, List.getElem?_cons_zero, List.getElem?_cons_succ] at p60 p61 p62 p63
            clear hgx hb6
            go_wp2_with fail
            refine (len_ok (HL6.out.grow HGN.out)).mono ?_
            rintro e w' ⟨rfl, rfl⟩
            rw [← HNE.out]
            go_wp2_with fail
            refine (awake_ok _).mono ?_
            intro e w9 hp
            obtain ⟨rfl, hg9⟩ := hp
            have HG9 := Lib.hid (HGX.out.trans hg9)
            clear hg9
            go_wp2_with fail
            go_ret
            exact ⟨rfl, HG9.out⟩
          | true =>
            cases wb with
            | false =>
              have hb0 : bm = false := bfalse HAB.out (fun h => by simpa using h.2.2.2)
              subst hb0
              have HL6 := Lib.hid (show LSt w5 B g s T5 va5 xs5 from HL5.out)
              clear HL5 HAB
              rw [show addE false = 2 from rfl]
              have HGX := Lib.hid HGW5.out
              have HGN := Lib.hid (Grow.refl w5)
              go_wp2_with fail
              refine (HWA.out _).mono ?_
              intro e wx6 hp
              obtain ⟨rfl, hgx⟩ := hp
              have HGX := Lib.hid (HGX.out.trans hgx)
              have HGN := Lib.hid (HGN.out.trans hgx)
              have hb6 := (HGN.out.block W.heap.size (by have := HG5.out.size; have := HG1.out.size; simp at this; omega)).trans H55.out
              have p60 := cell_at hb6 0
              have p61 := cell_at hb6 1
              have p62 := cell_at hb6 2
              have p63 := cell_at hb6 3
              simp only [List.getElem?_toArray, List.getElem?_cons_zero, List.getElem?_cons_succ] at p60 p61 p62 p63
              clear hgx hb6
              go_wp2_with fail
              refine (HWB.out _).mono ?_
              intro e wx7 hp
              obtain ⟨rfl, hgx⟩ := hp
              have HGX := Lib.hid (HGX.out.trans hgx)
              have HGN := Lib.hid (HGN.out.trans hgx)
              have hb7 := (HGN.out.block W.heap.size (by have := HG5.out.size; have := HG1.out.size; simp at this; omega)).trans H55.out
              have p70 := cell_at hb7 0
              have p71 := cell_at hb7 1
              have p72 := cell_at hb7 2
              have p73 := cell_at hb7 3
              simp only [List.getElem?_toArray, List.getElem?_cons_zero, List.getElem?_cons_succ] at p70 p71 p72 p73
              clear hgx hb7
              go_wp2_with fail
              refine (len_ok (HL6.out.grow HGN.out)).mono ?_
              rintro e w' ⟨rfl, rfl⟩
              rw [← HNE.out]
              go_wp2_with fail
              refine (awake_ok _).mono ?_
              intro e w9 hp
              obtain ⟨rfl, hg9⟩ := hp
              have HG9 := Lib.hid (HGX.out.trans hg9)
              clear hg9
              go_wp2_with fail
              go_ret
              exact ⟨rfl, HG9.out⟩
            | true =>
              have hb0 : bm = true := HAB.out.2 ⟨HFU.out, rfl, rfl, rfl⟩
              subst hb0
              clear HL5 HAB
              rw [show addE true = 0 from rfl]
              have HGX := Lib.hid HGW5.out
              have HGN := Lib.hid (Grow.refl w5)
              go_wp2_with fail
              refine (HWA.out _).mono ?_
              intro e wx6 hp
              obtain ⟨rfl, hgx⟩ := hp
              have HGX := Lib.hid (HGX.out.trans hgx)
              have HGN := Lib.hid (HGN.out.trans hgx)
              have hb6 := (HGN.out.block W.heap.size (by have := HG5.out.size; have := HG1.out.size; simp at this; omega)).trans H55.out
              have p60 := cell_at hb6 0
              have p61 := cell_at hb6 1
              have p62 := cell_at hb6 2
              have p63 := cell_at hb6 3
              simp only [List.getElem?_toArray, List.getElem?_cons_zero, List.getElem?_cons_succ] at p60 p61 p62 p63
              clear hgx hb6
              go_wp2_with fail
              refine (HWB.out _).mono ?_
              intro e wx7 hp
              obtain ⟨rfl, hgx⟩ := hp
              have HGX := Lib.hid (HGX.out.trans hgx)
              have HGN := Lib.hid (HGN.out.trans hgx)
              have hb7 := (HGN.out.block W.heap.size (by have := HG5.out.size; have := HG1.out.size; simp at this; omega)).trans H55.out
              have p70 := cell_at hb7 0
              have p71 := cell_at hb7 1
              have p72 := cell_at hb7 2
              have p73 := cell_at hb7 3
              simp only [List.getElem?_toArray, List.getElem?_cons_zero, List.getElem?_cons_succ] at p70 p71 p72 p73
              clear hgx hb7
              go_wp2_with fail
              refine (awake_ok _).mono ?_
              intro e w9 hp
              obtain ⟨rfl, hg9⟩ := hp
              have HG9 := Lib.hid (HGX.out.trans hg9)
              clear hg9
              go_wp2_with fail
              go_ret
              exact ⟨rfl, HG9.out⟩
      · rw [hlen] at hv5
        obtain ⟨gv, hav, hcell⟩ : ∃ gv, av = some ⟨gv, 0, none⟩ ∧ w5.cell? ⟨gv, m * 6 + 1, none⟩ = some (.int .u32 (x.seq : Int)) := by
          have hrow := HR5.out
          rw [hv5] at hrow
          rcases hrow.2.2 with ⟨hz, h1⟩ | ⟨gv, cap', cur, hz, _⟩
          · exfalso; simp at hz
          · simp only [Value.slice.injEq] at hz
            obtain ⟨rfl, _⟩ := hz
            have hc := Row.range hrow (i := m) (c := acell x) (by rw [List.getElem?_map, hx]; rfl) 1 (.int .u32 (x.seq : Int)) rfl
            exact ⟨gv, rfl, hc⟩
        subst hv5
        subst hav
        have hmn : m + 1 ≤ 60 := by omega
        have hwm : IntKind.i64.wrap (((m + 1 : Nat) : Int) - 1) = (m : Int) := by rw [IntKind.wrap_i64] <;> omega
        have hez : ((((m + 1 : Nat) : Int)) == 0) = false := by rw [beq_eq_false_iff_ne]; omega
        have HFI := Lib.hid (show (s.added = true → s.last < seq) ↔ x.seq < seq by rw [hlast]; exact ⟨fun h => h hadd, fun h _ => h⟩)
        clear HLA HR5 hx hlen hadd hlast
        by_cases hc : x.seq < seq
        rotate_left
        · skip
          have hb0 : bm = false := bfalse HAB.out (fun h => by exact hc (HFI.out.1 h.1))
          subst hb0
          have HL6 := Lib.hid (show LSt w5 B g s T5 va5 xs5 from HL5.out)
          clear HL5 HAB
          rw [show addE false = 2 from rfl]
          have HGX := Lib.hid HGW5.out
          have HGN := Lib.hid (Grow.refl w5)
          go_wp2_with fail
          refine (len_ok (HL6.out.grow HGN.out)).mono ?_
          rintro e w' ⟨rfl, rfl⟩
          rw [← HNE.out]
          go_wp2_with fail
          refine (awake_ok _).mono ?_
          intro e w9 hp
          obtain ⟨rfl, hg9⟩ := hp
          have HG9 := Lib.hid (HGX.out.trans hg9)
          clear hg9
          go_wp2_with fail
          go_ret
          exact ⟨rfl, HG9.out⟩
        · have HFU := Lib.hid (HFI.out.2 hc)
          clear HFI
          cases cb with
          | false =>
            have hb0 : bm = false := bfalse HAB.out (fun h => by simpa using h.2.1)
            subst hb0
            have HL6 := Lib.hid (show LSt w5 B g s T5 va5 xs5 from HL5.out)
            clear HL5 HAB
            rw [show addE false = 2 from rfl]
            have HGX := Lib.hid HGW5.out
            have HGN := Lib.hid (Grow.refl w5)
            go_wp2_with fail
            refine (len_ok (HL6.out.grow HGN.out)).mono ?_
            rintro e w' ⟨rfl, rfl⟩
            rw [← HNE.out]
            go_wp2_with fail
            refine (awake_ok _).mono ?_
            intro e w9 hp
            obtain ⟨rfl, hg9⟩ := hp
            have HG9 := Lib.hid (HGX.out.trans hg9)
            clear hg9
            go_wp2_with fail
            go_ret
            exact ⟨rfl, HG9.out⟩
          | true =>
            cases wa with
            | false =>
              have hb0 : bm = false := bfalse HAB.out (fun h => by simpa using h.2.2.1)
              subst hb0
              have HL6 := Lib.hid (show LSt w5 B g s T5 va5 xs5 from HL5.out)
              clear HL5 HAB
              rw [show addE false = 2 from rfl]
              have HGX := Lib.hid HGW5.out
              have HGN := Lib.hid (Grow.refl w5)
              go_wp2_with fail
              refine (HWA.out _).mono ?_
              intro e wx6 hp
              obtain ⟨rfl, hgx⟩ := hp
              have HGX := Lib.hid (HGX.out.trans hgx)
              have HGN := Lib.hid (HGN.out.trans hgx)
              have hb6 := (HGN.out.block W.heap.size (by have := HG5.out.size; have := HG1.out.size; simp at this; omega)).trans H55.out
              have p60 := cell_at hb6 0
              have p61 := cell_at hb6 1
              have p62 := cell_at hb6 2
              have p63 := cell_at hb6 3
              simp only [List.getElem?_toArray, List.getElem?_cons_zero, List.getElem?_cons_succ] at p60 p61 p62 p63
              clear hgx hb6
              go_wp2_with fail
              refine (len_ok (HL6.out.grow HGN.out)).mono ?_
              rintro e w' ⟨rfl, rfl⟩
              rw [← HNE.out]
              go_wp2_with fail
              refine (awake_ok _).mono ?_
              intro e w9 hp
              obtain ⟨rfl, hg9⟩ := hp
              have HG9 := Lib.hid (HGX.out.trans hg9)
              clear hg9
              go_wp2_with fail
              go_ret
              exact ⟨rfl, HG9.out⟩
            | true =>
              cases wb with
              | false =>
                have hb0 : bm = false := bfalse HAB.out (fun h => by simpa using h.2.2.2)
                subst hb0
                have HL6 := Lib.hid (show LSt w5 B g s T5 va5 xs5 from HL5.out)
                clear HL5 HAB
                rw [show addE false = 2 from rfl]
                have HGX := Lib.hid HGW5.out
                have HGN := Lib.hid (Grow.refl w5)
                go_wp2_with fail
                refine (HWA.out _).mono ?_
                intro e wx6 hp
                obtain ⟨rfl, hgx⟩ := hp
                have HGX := Lib.hid (HGX.out.trans hgx)
                have HGN := Lib.hid (HGN.out.trans hgx)
                have hb6 := (HGN.out.block W.heap.size (by have := HG5.out.size; have := HG1.out.size; simp at this; omega)).trans H55.out
                have p60 := cell_at hb6 0
                have p61 := cell_at hb6 1
                have p62 := cell_at hb6 2
                have p63 := cell_at hb6 3
                simp only [List.getElem?_toArray, List.getElem?_cons_zero, List.getElem?_cons_succ] at p60 p61 p62 p63
                clear hgx hb6
                go_wp2_with fail
                refine (HWB.out _).mono ?_
                intro e wx7 hp
                obtain ⟨rfl, hgx⟩ := hp
                have HGX := Lib.hid (HGX.out.trans hgx)
                have HGN := Lib.hid (HGN.out.trans hgx)
                have hb7 := (HGN.out.block W.heap.size (by have := HG5.out.size; have := HG1.out.size; simp at this; omega)).trans H55.out
                have p70 := cell_at hb7 0
                have p71 := cell_at hb7 1
                have p72 := cell_at hb7 2
                have p73 := cell_at hb7 3
                simp only [List.getElem?_toArray, List.getElem?_cons_zero, List.getElem?_cons_succ] at p70 p71 p72 p73
                clear hgx hb7
                go_wp2_with fail
                refine (len_ok (HL6.out.grow HGN.out)).mono ?_
                rintro e w' ⟨rfl, rfl⟩
                rw [← HNE.out]
                go_wp2_with fail
                refine (awake_ok _).mono ?_
                intro e w9 hp
                obtain ⟨rfl, hg9⟩ := hp
                have HG9 := Lib.hid (HGX.out.trans hg9)
                clear hg9
                go_wp2_with fail
                go_ret
                exact ⟨rfl, HG9.out⟩
              | true =>
                have hb0 : bm = true := HAB.out.2 ⟨HFU.out, rfl, rfl, rfl⟩
                subst hb0
                clear HL5 HAB
                rw [show addE true = 0 from rfl]
                have HGX := Lib.hid HGW5.out
                have HGN := Lib.hid (Grow.refl w5)
                go_wp2_with fail
                refine (HWA.out _).mono ?_
                intro e wx6 hp
                obtain ⟨rfl, hgx⟩ := hp
                have HGX := Lib.hid (HGX.out.trans hgx)
                have HGN := Lib.hid (HGN.out.trans hgx)
                have hb6 := (HGN.out.block W.heap.size (by have := HG5.out.size; have := HG1.out.size; simp at this; omega)).trans H55.out
                have p60 := cell_at hb6 0
                have p61 := cell_at hb6 1
                have p62 := cell_at hb6 2
                have p63 := cell_at hb6 3
                simp only [List.getElem?_toArray, List.getElem?_cons_zero, List.getElem?_cons_succ] at p60 p61 p62 p63
                clear hgx hb6
                go_wp2_with fail
                refine (HWB.out _).mono ?_
                intro e wx7 hp
                obtain ⟨rfl, hgx⟩ := hp
                have HGX := Lib.hid (HGX.out.trans hgx)
                have HGN := Lib.hid (HGN.out.trans hgx)
                have hb7 := (HGN.out.block W.heap.size (by have := HG5.out.size; have := HG1.out.size; simp at this; omega)).trans H55.out
                have p70 := cell_at hb7 0
                have p71 := cell_at hb7 1
                have p72 := cell_at hb7 2
                have p73 := cell_at hb7 3
                simp only [List.getElem?_toArray, List.getElem?_cons_zero, List.getElem?_cons_succ] at p70 p71 p72 p73
                clear hgx hb7
                go_wp2_with fail
                refine (awake_ok _).mono ?_
                intro e w9 hp
                obtain ⟨rfl, hg9⟩ := hp
                have HG9 := Lib.hid (HGX.out.trans hg9)
                clear hg9
                go_wp2_with fail
                go_ret
                exact ⟨rfl, HG9.out⟩
#print axioms order_walk
end Go.Proofs.Ytokehhegomiciaa
