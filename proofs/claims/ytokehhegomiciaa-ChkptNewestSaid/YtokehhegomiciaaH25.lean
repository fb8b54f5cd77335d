/- The law ChkptNewest: the walk. -/
import Derived.Test.YtokehhegomiciaaH24
set_option linter.unusedVariables false
set_option linter.unusedSimpArgs false
namespace Go.Proofs.Ytokehhegomiciaa
open Go.RowKit Go.Maps

theorem asee_row {w w' : World} {v vt : Value} {l tk : List AV} (h : ASee w v l) (hg : Grow w w') (hr : ARow w' vt tk) (hs : tk.Sublist l) : ASee w' vt tk :=
  ⟨Row.see hr, fun x hx => (h.2 x (hs.subset hx)).grow hg⟩
set_option maxRecDepth 100000 in
set_option maxHeartbeats 8000000 in
theorem newest_walk {W : World} {v : Value} {l : List AV} (g : G4) (hA : ASee W v l) (hl : l.length ≤ 9223372036854775807) (hcl : ∀ x ∈ l, x.cs.length ≤ 9223372036854775807 ∧ x.rs.length ≤ 9223372036854775807) (b : Int) (hb : IntOk b) :
    Calls Try.prog 6 #[.agg #[.int .i64 g.gr, .int .i64 g.sz, .int .i64 g.ni, .int .i64 g.jr], v, .int .i64 b] W fun e w' => e = .returned (.bool true) ∧ Grow W w' := by
  have HA := Lib.hid hA
  have HGR := Lib.hid (show ∀ w, Grow W w → Calls Try.prog 8 #[v] w fun e w' => ∃ b, e = .returned (.bool b) ∧ Grow w w' ∧ (b = false → Small l) from fun w hg => great_ok (hA.grow hg) hl hcl)
  have HIB := Lib.hid hb
  have hz := zero32
  have hsz := zero_size
  have hbt := builtB
  have hzo : (bc zeroB).toArray.all (·.oneCell') = true := all_oneCell_toArray (bc_one _)
  generalize hZ : (bc zeroB).toArray = Z at *
  have HSZ := Lib.hid (show (Try.prog.info? 33).map (·.size) = some Z.size by rw [hsz]; exact size32)
  have HS0 := Lib.hid hsz
  have HB := Lib.hid hbt
  have HO := Lib.hid hzo
  have HZe := Lib.hid hZ
  have HSB : ∀ x : Blk, x.length = 256 → Hid ((Try.prog.info? 33).map (·.size) = some (bc x).toArray.size) := fun x hx => Lib.hid (by rw [List.size_toArray, bc_length, hx]; exact size32)
  have HSE : ∀ x : Blk, x.length = 256 → Hid (Z.size = (bc x).toArray.size) := fun x hx => Lib.hid (by rw [HS0.out, List.size_toArray, bc_length, hx])
  have HOB : ∀ x : Blk, Hid ((bc x).toArray.all (·.oneCell') = true) := fun x => Lib.hid (all_oneCell_toArray (bc_one _))
  clear hA hl hcl hb hZ hbt hzo hsz
  go_enter Try.func6, Try.ntmps6
  go_wp2_with fail
  refine (HGR.out _ (Grow.alloc _ _)).mono ?_
  intro e w1 hp
  obtain ⟨gb, rfl, hg1, hsm⟩ := hp
  have HG1 := Lib.hid hg1
  have HSM := Lib.hid hsm
  have h5 := (hg1.block W.heap.size (by simp)).trans (heap_alloc_last W _)
  have k0 := cell_at h5 0
  have k1 := cell_at h5 1
  have k2 := cell_at h5 2
  have k3 := cell_at h5 3
  simp only [List.getElem?_toArray, List.getElem?_cons_zero, List.getElem?_cons_succ] at k0 k1 k2 k3
  have H5 := Lib.hid h5
  clear hg1 hsm h5
  cases gb with
  | true =>
    go_wp2_with fail
    go_ret
    exact ⟨rfl, (Grow.alloc _ _).trans HG1.out⟩
  | false =>
    have HS := Lib.hid (HSM.out rfl)
    have HGW1 := Lib.hid (show Grow W w1 from (Grow.alloc _ _).trans HG1.out)
    go_wp2_with fail
    refine (added_ok (g := g) (HA.out.grow HGW1.out) HS.out).mono ?_
    intro e w2 hp
    rcases hp with ⟨hM, rfl, hg2⟩ | ⟨hM, B, T, vt, rfl, hinv⟩
    · have HG2 := Lib.hid (HGW1.out.trans hg2)
      clear k0 k1 k2 k3 hg2
      go_wp2_with fail
      refine (awake_ok _).mono ?_
      intro e w3 hp
      obtain ⟨rfl, hg3⟩ := hp
      have HG3 := Lib.hid (HG2.out.trans hg3)
      clear hg3
      go_wp2_with fail
      go_ret
      exact ⟨rfl, HG3.out⟩
    · have HM := Lib.hid hM
      have HI := Lib.hid hinv
      obtain ⟨va, xs, hls⟩ := hinv.ls
      rw [List.take_length] at hls
      have HL2 := Lib.hid hls
      have HR2 := Lib.hid (show ARow w2 vt (runA g l).2 by have := hinv.row; rwa [List.take_length] at this)
      have HG2 := Lib.hid (show Grow W w2 from HGW1.out.trans hinv.grow)
      have H52 := Lib.hid ((hinv.grow.block W.heap.size (by have := HG1.out.size; simp at this; omega)).trans H5.out)
      have hri := runA_inv g l
      have hn60 : (runA g l).2.length ≤ 60 := Nat.le_trans hri.2.length_le HS.out.1
      have HNL := Lib.hid hri.1
      have HRN := Lib.hid (runN_run g l b)
      have HSUB := Lib.hid hri.2
      have HS2 := Lib.hid (asee_row HA.out HG2.out HR2.out HSUB.out)
      have HSM2 := Lib.hid (show ∀ x ∈ (runA g l).2, x.cs.length ≤ 600 ∧ x.rs.length ≤ 600 from fun x hx => HS.out.2 x (HSUB.out.subset hx))
      generalize (runA g l).1 = s at *
      generalize (runA g l).2 = tk at *
      obtain ⟨av, cv, hvt⟩ := HS2.out.len
      obtain ⟨m, hm⟩ : ∃ m, m = tk.length := ⟨_, rfl⟩
      rw [← hm] at hvt hn60
      subst hvt
      have HM2 := Lib.hid hm
      clear k0 k1 k2 k3 hls hinv hri hM hm HI HR2 H52 H5 HSUB
      have HD := Lib.hid (show ((w2.alloc (.cells Z 33)).setRow w2.heap.size Z).heap[w2.heap.size]? = some (.cells Z 33) from setRow_heap _ _ _ _ _ _ (heap_alloc_last _ _))
      have HGD := Lib.hid (show Grow w2 ((w2.alloc (.cells Z 33)).setRow w2.heap.size Z) from below_setRow (Grow.alloc _ _) (Nat.le_refl _) _)
      go_upto_region 7 with (first | ((refine wpList_build rfl 33 _ rfl (by rw [show (((#[] : Array (Nat × Operand)).map fun (i, x) => (i, Act.eval _ x)).toList) = [] from rfl, HB.out]; rfl) ?_); rw [show (((#[] : Array (Nat × Operand)).map fun (i, x) => (i, Act.eval _ x)).toList) = [] from rfl, HB.out, Option.getD_some]) | (refine wpList_store_row rfl 33 _ _ rfl w2.heap.size Z rfl rfl 33 Z (heap_alloc_last _ _) HSZ.out rfl HO.out ?_))
      generalize (w2.alloc (.cells Z 33)).setRow w2.heap.size Z = w3 at *
      obtain ⟨D, hD⟩ : ∃ D, D = w2.heap.size := ⟨_, rfl⟩
      rw [← hD] at HD ⊢
      have HDe := Lib.hid hD
      clear hD
      go_wp2_with fail
      go_loopw [11, 12, 13] (fun t11 t12 t13 wr => ∃ k, k ≤ m ∧ t13 = .int .i64 (k : Int) ∧ t11 = .bool (runN b (tk.take k)).is ∧ t12 = .bool (runN b (tk.take k)).inn ∧ Hid (Grow w2 wr) ∧ Hid (wr.heap[D]? = some (.cells (bc (runN b (tk.take k)).want).toArray 33)) ∧ Hid ((runN b (tk.take k)).want.length = 256)) (fun _ _ t13 _ => m - (intOf t13).toNat)
      case atStart => exact ⟨0, by omega, by go_num, rfl, rfl, HGD, Lib.hid (by rw [HD.out, ← HZe.out]; rfl), Lib.hid zeroB_ok⟩
      case round =>
        obtain ⟨k, hkm, rfl, rfl, rfl, HGK, HDK, HLK⟩ := hrel
        by_cases hk : k < m
        · obtain ⟨x, hx⟩ : ∃ x, tk[k]? = some x := ⟨tk[k]'(by rw [← HM2.out]; exact hk), by simp⟩
          obtain ⟨ga, oa, rfl, hga, hr, hav⟩ := HS2.out.at_ hx
          obtain ⟨ac, cc, hvc⟩ := hav.cs.len
          obtain ⟨ar, cr, hvr⟩ := hav.rs.len
          have hsm := HSM2.out x (List.mem_of_getElem? hx)
          have HST := Lib.hid (runN_take (b := b) hx)
          obtain ⟨q, hq0⟩ : ∃ q, runN b (tk.take (k + 1)) = q := ⟨_, rfl⟩
          rw [hq0] at HST
          have HQR := Lib.hid hq0
          clear hq0
          generalize runN b (tk.take k) = p at *
          obtain ⟨want, is, inn⟩ := p
          have q1 := (Below.cell HGK.out (p := ⟨ga, oa + k * 6 + 1, none⟩) hga).trans (hr 1 _ rfl)
          have q2 := (Below.cell HGK.out (p := ⟨ga, oa + k * 6 + 2, none⟩) hga).trans (hr 2 _ rfl)
          have q3 := (Below.cell HGK.out (p := ⟨ga, oa + k * 6 + 3, none⟩) hga).trans (hr 3 _ rfl)
          have q3z := hr 3 _ rfl
          rw [hvc] at q2
          rw [hvr] at q3 q3z
          obtain ⟨nc, hnc⟩ : ∃ nc, nc = x.cs.length := ⟨_, rfl⟩
          obtain ⟨nr, hnr⟩ : ∃ nr, nr = x.rs.length := ⟨_, rfl⟩
          rw [← hnc] at q2 hsm
          rw [← hnr] at q3 q3z hsm
          have HCS := Lib.hid (show CSee wr (.slice ac nc cc) x.cs by have := hav.cs.grow HGK.out; rwa [hvc, ← hnc] at this)
          have HRS2 := Lib.hid (show ISee w2 (.slice ar nr cr) x.rs by have := hav.rs; rwa [hvr, ← hnr] at this)
          have HRS := Lib.hid (HRS2.out.grow HGK.out)
          have HNC := Lib.hid hnc
          have HNR := Lib.hid hnr
          have b0 : (0 : Int) ≤ (k : Int) := by omega
          have b1 : (k : Int) < (m : Int) := by omega
          have a1 : oa + k * 6 + 1 + 1 = oa + k * 6 + 2 := rfl
          have a2 : oa + k * 6 + 1 + 2 = oa + k * 6 + 3 := rfl
          rw [← a1] at q2
          rw [← a2] at q3 q3z
          have HGA := Lib.hid hga
          have HQ1 := Lib.hid q1
          have HQ3 := Lib.hid q3z
          clear hx hr hav hvc hvr hnc hnr a1 a2 hga q3z
          simp only at HDK HLK
          go_wp2_with fail
          refine (data_ok HNC.out HCS.out (by omega) HRS.out b).mono ?_
          intro e w4 hp
          obtain ⟨rfl, hg4⟩ := hp
          have HX4 := Lib.hid (show (dataC (findC x.cs b)).length = 256 from dataC_len (fun c hc => (HCS.out.2 c hc).2) b)
          obtain ⟨X, hX⟩ : ∃ X, dataC (findC x.cs b) = X := ⟨_, rfl⟩
          obtain ⟨h, hh⟩ : ∃ h, (findC x.cs b).isSome = h := ⟨_, rfl⟩
          rw [hX] at HX4 ⊢
          rw [hh]
          have HST2 := Lib.hid (show q = ⟨if b ∈ x.rs then zeroB else if h then X else want, if b ∈ x.rs then false else if h then true else is, inn || h⟩ by
            rw [HST.out]; unfold stepN; rw [hX, hh])
          have HG4 := Lib.hid hg4
          have HG5 := Lib.hid (show Grow w4 ((w4.alloc (.cells Z 33)).setRow w4.heap.size (bc X).toArray) from below_setRow (Grow.alloc _ _) (Nat.le_refl _) _)
          have HE := Lib.hid (setRow_heap _ _ _ (bc X).toArray _ _ (heap_alloc_last w4 (.cells Z 33)))
          clear hX hh hg4 q1 q2 q3 HST
          go_upto_region 12 with (refine wpList_store_row rfl 33 _ _ rfl w4.heap.size (bc X).toArray rfl rfl 33 Z (heap_alloc_last _ _) (HSB X HX4.out).out (HSE X HX4.out).out (HOB X).out ?_)
          generalize (w4.alloc (.cells Z 33)).setRow w4.heap.size (bc X).toArray = w5 at *
          obtain ⟨E, hE⟩ : ∃ E, E = w4.heap.size := ⟨_, rfl⟩
          rw [← hE] at HE ⊢
          have HG45 := Lib.hid (HG4.out.trans HG5.out)
          have HD5 := Lib.hid ((HG45.out.block D (Array.getElem?_eq_some_iff.1 HDK.out).1).trans HDK.out)
          have HG25 := Lib.hid (HGK.out.trans HG45.out)
          have HDlo := Lib.hid (show w2.heap.size ≤ D by rw [HDe.out]; exact Nat.le_refl _)
          have HDE := Lib.hid (show D ≠ E by have h1 := (Array.getElem?_eq_some_iff.1 HDK.out).1; have h2 := HG4.out.size; omega)
          have HXL := Lib.hid HX4.out
          clear hE HX4 HG4 HG5 HDK HNC HCS HRS HGK HQ1
          have HWL := Lib.hid HLK.out
          obtain ⟨rb, hrb⟩ : ∃ rb, decide (b ∈ x.rs) = rb := ⟨_, rfl⟩
          have HRB := Lib.hid hrb
          clear hrb
          cases inn <;> cases h <;> cases rb
          · have HQE := Lib.hid (show q = ⟨want, is, false⟩ by rw [HST2.out]; rw [if_neg (of_decide_eq_false HRB.out), if_neg (of_decide_eq_false HRB.out)]; rfl)
            have HD6 := Lib.hid HD5.out
            have HG6 := Lib.hid HG25.out
            have HRS6 := Lib.hid (HRS2.out.grow HG6.out)
            have q36 := (Below.cell HG6.out (p := ⟨ga, oa + k * 6 + 1 + 2, none⟩) HGA.out).trans HQ3.out
            go_wp2_with fail
            refine (has_ok HRS6.out (by rw [← HNR.out]; omega) b).mono ?_
            rintro e w' ⟨rfl, rfl⟩
            rw [HRB.out]
            go_wp2_with fail
            go_roundw
            case rel => exact ⟨k + 1, by omega, by go_num, by rw [HQR.out, HQE.out], by rw [HQR.out, HQE.out], HG6, Lib.hid (by rw [HQR.out, HQE.out]; exact HD6.out), Lib.hid (by rw [HQR.out, HQE.out]; exact HWL.out)⟩
            case measure => simp [intOf]; omega
          · have HQE := Lib.hid (show q = ⟨zeroB, false, false⟩ by rw [HST2.out]; rw [if_pos (of_decide_eq_true HRB.out), if_pos (of_decide_eq_true HRB.out)]; rfl)
            have HD6 := Lib.hid HD5.out
            have HG6 := Lib.hid HG25.out
            have HRS6 := Lib.hid (HRS2.out.grow HG6.out)
            have q36 := (Below.cell HG6.out (p := ⟨ga, oa + k * 6 + 1 + 2, none⟩) HGA.out).trans HQ3.out
            go_wp2_with fail
            refine (has_ok HRS6.out (by rw [← HNR.out]; omega) b).mono ?_
            rintro e w' ⟨rfl, rfl⟩
            rw [HRB.out]
            go_wp2_with (first | ((refine wpList_build rfl 33 _ rfl (by rw [show (((#[] : Array (Nat × Operand)).map fun (i, x) => (i, Act.eval _ x)).toList) = [] from rfl, HB.out]; rfl) ?_); rw [show (((#[] : Array (Nat × Operand)).map fun (i, x) => (i, Act.eval _ x)).toList) = [] from rfl, HB.out, Option.getD_some]) | (refine wpList_store_row rfl 33 _ _ rfl D Z rfl rfl 33 (bc want).toArray HD6.out HSZ.out (HSE want HWL.out).out.symm HO.out ?_))
            go_roundw
            case rel => exact ⟨k + 1, by omega, by go_num, by rw [HQR.out, HQE.out], by rw [HQR.out, HQE.out], Lib.hid (below_setRow HG6.out HDlo.out _), Lib.hid (by rw [HQR.out, HQE.out]; show _ = some (Obj.cells (bc zeroB).toArray 33); rw [HZe.out]; exact setRow_heap _ _ _ _ _ _ HD6.out), Lib.hid (by rw [HQR.out, HQE.out]; exact zeroB_ok)⟩
            case measure => simp [intOf]; omega
          · have HQE := Lib.hid (show q = ⟨X, true, true⟩ by rw [HST2.out]; rw [if_neg (of_decide_eq_false HRB.out), if_neg (of_decide_eq_false HRB.out)]; rfl)
            have HD6 := Lib.hid (setRow_heap w5 D _ (bc X).toArray _ _ HD5.out)
            have HG6 := Lib.hid (show Grow w2 (w5.setRow D (bc X).toArray) from below_setRow HG25.out HDlo.out _)
            have HRS6 := Lib.hid (HRS2.out.grow HG6.out)
            have q36 := (Below.cell HG6.out (p := ⟨ga, oa + k * 6 + 1 + 2, none⟩) HGA.out).trans HQ3.out
            go_wp2_with (first | (refine wpList_load_row rfl 33 _ rfl E rfl 33 (bc X).toArray (0, 0) _ HE.out Try.underlying33 rfl (HSB X HXL.out).out ?_) | (refine wpList_store_row rfl 33 _ _ rfl D (bc X).toArray rfl rfl 33 (bc want).toArray HD5.out (HSB X HXL.out).out (by rw [← (HSE X HXL.out).out, ← (HSE want HWL.out).out]) (HOB X).out ?_))
            refine (has_ok HRS6.out (by rw [← HNR.out]; omega) b).mono ?_
            rintro e w' ⟨rfl, rfl⟩
            rw [HRB.out]
            go_wp2_with fail
            go_roundw
            case rel => exact ⟨k + 1, by omega, by go_num, by rw [HQR.out, HQE.out], by rw [HQR.out, HQE.out], HG6, Lib.hid (by rw [HQR.out, HQE.out]; exact HD6.out), Lib.hid (by rw [HQR.out, HQE.out]; exact HXL.out)⟩
            case measure => simp [intOf]; omega
          · have HQE := Lib.hid (show q = ⟨zeroB, false, true⟩ by rw [HST2.out]; rw [if_pos (of_decide_eq_true HRB.out), if_pos (of_decide_eq_true HRB.out)]; rfl)
            have HD6 := Lib.hid (setRow_heap w5 D _ (bc X).toArray _ _ HD5.out)
            have HG6 := Lib.hid (show Grow w2 (w5.setRow D (bc X).toArray) from below_setRow HG25.out HDlo.out _)
            have HRS6 := Lib.hid (HRS2.out.grow HG6.out)
            have q36 := (Below.cell HG6.out (p := ⟨ga, oa + k * 6 + 1 + 2, none⟩) HGA.out).trans HQ3.out
            go_wp2_with (first | (refine wpList_load_row rfl 33 _ rfl E rfl 33 (bc X).toArray (0, 0) _ HE.out Try.underlying33 rfl (HSB X HXL.out).out ?_) | (refine wpList_store_row rfl 33 _ _ rfl D (bc X).toArray rfl rfl 33 (bc want).toArray HD5.out (HSB X HXL.out).out (by rw [← (HSE X HXL.out).out, ← (HSE want HWL.out).out]) (HOB X).out ?_))
            refine (has_ok HRS6.out (by rw [← HNR.out]; omega) b).mono ?_
            rintro e w' ⟨rfl, rfl⟩
            rw [HRB.out]
            go_wp2_with (first | ((refine wpList_build rfl 33 _ rfl (by rw [show (((#[] : Array (Nat × Operand)).map fun (i, x) => (i, Act.eval _ x)).toList) = [] from rfl, HB.out]; rfl) ?_); rw [show (((#[] : Array (Nat × Operand)).map fun (i, x) => (i, Act.eval _ x)).toList) = [] from rfl, HB.out, Option.getD_some]) | (refine wpList_store_row rfl 33 _ _ rfl D Z rfl rfl 33 (bc X).toArray HD6.out HSZ.out (HSE X HXL.out).out.symm HO.out ?_))
            go_roundw
            case rel => exact ⟨k + 1, by omega, by go_num, by rw [HQR.out, HQE.out], by rw [HQR.out, HQE.out], Lib.hid (below_setRow HG6.out HDlo.out _), Lib.hid (by rw [HQR.out, HQE.out]; show _ = some (Obj.cells (bc zeroB).toArray 33); rw [HZe.out]; exact setRow_heap _ _ _ _ _ _ HD6.out), Lib.hid (by rw [HQR.out, HQE.out]; exact zeroB_ok)⟩
            case measure => simp [intOf]; omega
          · have HQE := Lib.hid (show q = ⟨want, is, true⟩ by rw [HST2.out]; rw [if_neg (of_decide_eq_false HRB.out), if_neg (of_decide_eq_false HRB.out)]; rfl)
            have HD6 := Lib.hid HD5.out
            have HG6 := Lib.hid HG25.out
            have HRS6 := Lib.hid (HRS2.out.grow HG6.out)
            have q36 := (Below.cell HG6.out (p := ⟨ga, oa + k * 6 + 1 + 2, none⟩) HGA.out).trans HQ3.out
            go_wp2_with fail
            refine (has_ok HRS6.out (by rw [← HNR.out]; omega) b).mono ?_
            rintro e w' ⟨rfl, rfl⟩
            rw [HRB.out]
            go_wp2_with fail
            go_roundw
            case rel => exact ⟨k + 1, by omega, by go_num, by rw [HQR.out, HQE.out], by rw [HQR.out, HQE.out], HG6, Lib.hid (by rw [HQR.out, HQE.out]; exact HD6.out), Lib.hid (by rw [HQR.out, HQE.out]; exact HWL.out)⟩
            case measure => simp [intOf]; omega
          · have HQE := Lib.hid (show q = ⟨zeroB, false, true⟩ by rw [HST2.out]; rw [if_pos (of_decide_eq_true HRB.out), if_pos (of_decide_eq_true HRB.out)]; rfl)
            have HD6 := Lib.hid HD5.out
            have HG6 := Lib.hid HG25.out
            have HRS6 := Lib.hid (HRS2.out.grow HG6.out)
            have q36 := (Below.cell HG6.out (p := ⟨ga, oa + k * 6 + 1 + 2, none⟩) HGA.out).trans HQ3.out
            go_wp2_with fail
            refine (has_ok HRS6.out (by rw [← HNR.out]; omega) b).mono ?_
            rintro e w' ⟨rfl, rfl⟩
            rw [HRB.out]
            go_wp2_with (first | ((refine wpList_build rfl 33 _ rfl (by rw [show (((#[] : Array (Nat × Operand)).map fun (i, x) => (i, Act.eval _ x)).toList) = [] from rfl, HB.out]; rfl) ?_); rw [show (((#[] : Array (Nat × Operand)).map fun (i, x) => (i, Act.eval _ x)).toList) = [] from rfl, HB.out, Option.getD_some]) | (refine wpList_store_row rfl 33 _ _ rfl D Z rfl rfl 33 (bc want).toArray HD6.out HSZ.out (HSE want HWL.out).out.symm HO.out ?_))
            go_roundw
            case rel => exact ⟨k + 1, by omega, by go_num, by rw [HQR.out, HQE.out], by rw [HQR.out, HQE.out], Lib.hid (below_setRow HG6.out HDlo.out _), Lib.hid (by rw [HQR.out, HQE.out]; show _ = some (Obj.cells (bc zeroB).toArray 33); rw [HZe.out]; exact setRow_heap _ _ _ _ _ _ HD6.out), Lib.hid (by rw [HQR.out, HQE.out]; exact zeroB_ok)⟩
            case measure => simp [intOf]; omega
          · have HQE := Lib.hid (show q = ⟨X, true, true⟩ by rw [HST2.out]; rw [if_neg (of_decide_eq_false HRB.out), if_neg (of_decide_eq_false HRB.out)]; rfl)
            have HD6 := Lib.hid (setRow_heap w5 D _ (bc X).toArray _ _ HD5.out)
            have HG6 := Lib.hid (show Grow w2 (w5.setRow D (bc X).toArray) from below_setRow HG25.out HDlo.out _)
            have HRS6 := Lib.hid (HRS2.out.grow HG6.out)
            have q36 := (Below.cell HG6.out (p := ⟨ga, oa + k * 6 + 1 + 2, none⟩) HGA.out).trans HQ3.out
            go_wp2_with (first | (refine wpList_load_row rfl 33 _ rfl E rfl 33 (bc X).toArray (0, 0) _ HE.out Try.underlying33 rfl (HSB X HXL.out).out ?_) | (refine wpList_store_row rfl 33 _ _ rfl D (bc X).toArray rfl rfl 33 (bc want).toArray HD5.out (HSB X HXL.out).out (by rw [← (HSE X HXL.out).out, ← (HSE want HWL.out).out]) (HOB X).out ?_))
            refine (has_ok HRS6.out (by rw [← HNR.out]; omega) b).mono ?_
            rintro e w' ⟨rfl, rfl⟩
            rw [HRB.out]
            go_wp2_with fail
            go_roundw
            case rel => exact ⟨k + 1, by omega, by go_num, by rw [HQR.out, HQE.out], by rw [HQR.out, HQE.out], HG6, Lib.hid (by rw [HQR.out, HQE.out]; exact HD6.out), Lib.hid (by rw [HQR.out, HQE.out]; exact HXL.out)⟩
            case measure => simp [intOf]; omega
          · have HQE := Lib.hid (show q = ⟨zeroB, false, true⟩ by rw [HST2.out]; rw [if_pos (of_decide_eq_true HRB.out), if_pos (of_decide_eq_true HRB.out)]; rfl)
            have HD6 := Lib.hid (setRow_heap w5 D _ (bc X).toArray _ _ HD5.out)
            have HG6 := Lib.hid (show Grow w2 (w5.setRow D (bc X).toArray) from below_setRow HG25.out HDlo.out _)
            have HRS6 := Lib.hid (HRS2.out.grow HG6.out)
            have q36 := (Below.cell HG6.out (p := ⟨ga, oa + k * 6 + 1 + 2, none⟩) HGA.out).trans HQ3.out
            go_wp2_with (first | (refine wpList_load_row rfl 33 _ rfl E rfl 33 (bc X).toArray (0, 0) _ HE.out Try.underlying33 rfl (HSB X HXL.out).out ?_) | (refine wpList_store_row rfl 33 _ _ rfl D (bc X).toArray rfl rfl 33 (bc want).toArray HD5.out (HSB X HXL.out).out (by rw [← (HSE X HXL.out).out, ← (HSE want HWL.out).out]) (HOB X).out ?_))
            refine (has_ok HRS6.out (by rw [← HNR.out]; omega) b).mono ?_
            rintro e w' ⟨rfl, rfl⟩
            rw [HRB.out]
            go_wp2_with (first | ((refine wpList_build rfl 33 _ rfl (by rw [show (((#[] : Array (Nat × Operand)).map fun (i, x) => (i, Act.eval _ x)).toList) = [] from rfl, HB.out]; rfl) ?_); rw [show (((#[] : Array (Nat × Operand)).map fun (i, x) => (i, Act.eval _ x)).toList) = [] from rfl, HB.out, Option.getD_some]) | (refine wpList_store_row rfl 33 _ _ rfl D Z rfl rfl 33 (bc X).toArray HD6.out HSZ.out (HSE X HXL.out).out.symm HO.out ?_))
            go_roundw
            case rel => exact ⟨k + 1, by omega, by go_num, by rw [HQR.out, HQE.out], by rw [HQR.out, HQE.out], Lib.hid (below_setRow HG6.out HDlo.out _), Lib.hid (by rw [HQR.out, HQE.out]; show _ = some (Obj.cells (bc zeroB).toArray 33); rw [HZe.out]; exact setRow_heap _ _ _ _ _ _ HD6.out), Lib.hid (by rw [HQR.out, HQE.out]; exact zeroB_ok)⟩
            case measure => simp [intOf]; omega
        · obtain rfl : k = m := by omega
          have HRN2 := Lib.hid (show runN b (tk.take k) = ofN s b by rw [HM2.out, List.take_length]; exact HRN.out)
          rw [HRN2.out] at HDK HLK ⊢
          have HL3 := Lib.hid (HL2.out.grow HGK.out)
          obtain ⟨q, hq⟩ : ∃ q, q = (getC s.all b).isSome := ⟨_, rfl⟩
          obtain ⟨inn, hin⟩ : ∃ inn, inn = inC s.all b := ⟨_, rfl⟩
          obtain ⟨X, hX⟩ : ∃ X, X = dataC (getC s.all b) := ⟨_, rfl⟩
          rw [show (ofN s b).want = X from hX.symm] at HDK HLK
          rw [show (ofN s b).is = q from hq.symm, show (ofN s b).inn = inn from hin.symm]
          have HQ := Lib.hid hq
          have HIN := Lib.hid hin
          have HX := Lib.hid hX
          clear hq hin hX HRN HRN2
          go_wp2_with fail
          refine (get_ok HL3.out b HIB.out).mono ?_
          intro e w4 hp
          obtain ⟨rfl, hg4⟩ := hp
          rw [← HX.out, ← HQ.out]
          have HG4 := Lib.hid hg4
          have HE := Lib.hid (setRow_heap _ _ _ (bc X).toArray _ _ (heap_alloc_last w4 (.cells Z 33)))
          have HG5 := Lib.hid (show Grow w4 ((w4.alloc (.cells Z 33)).setRow w4.heap.size (bc X).toArray) from below_setRow (Grow.alloc _ _) (Nat.le_refl _) _)
          clear hg4
          go_upto_region 20 with (refine wpList_store_row rfl 33 _ _ rfl w4.heap.size (bc X).toArray rfl rfl 33 Z (heap_alloc_last _ _) (HSB X HLK.out).out (HSE X HLK.out).out (HOB X).out ?_)
          generalize (w4.alloc (.cells Z 33)).setRow w4.heap.size (bc X).toArray = w5 at *
          obtain ⟨E, hE⟩ : ∃ E, E = w4.heap.size := ⟨_, rfl⟩
          rw [← hE] at HE ⊢
          have HG45 := Lib.hid (HG4.out.trans HG5.out)
          have HD5 := Lib.hid ((HG45.out.block D (Array.getElem?_eq_some_iff.1 HDK.out).1).trans HDK.out)
          have HL5 := Lib.hid (HL3.out.grow HG45.out)
          have HGW5 := Lib.hid (HG2.out.trans (HGK.out.trans HG45.out))
          have HEQ := Lib.hid (show (binOp .eql 33 (.agg (bc X).toArray) (.agg (bc X).toArray)).run Try.prog w5 = .ok (.bool true) w5 by rw [eqlBlk X X HLK.out HLK.out, decide_eq_true rfl])
          clear hE HG4 HG5 HDK HL2 HL3 HGK HG45 HA HG1 HGW1 HG2 HGD HD HS2 HSM2
          have e1 : (q == q) = true := by simp
          have e2 : (inn == inn) = true := by simp
          go_wp2_with (first | (refine wpList_load_row rfl 33 _ rfl E rfl 33 (bc X).toArray (0, 0) _ HE.out Try.underlying33 rfl (HSB X HLK.out).out ?_) | (refine wpList_load_row rfl 33 _ rfl D rfl 33 (bc X).toArray (0, 0) _ HD5.out Try.underlying33 rfl (HSB X HLK.out).out ?_) | (refine wpList_eqB rfl .eql _ _ _ rfl (bc X).toArray (bc X).toArray rfl rfl HEQ.out ?_))
          refine (left_ok HL5.out).mono ?_
          intro e w6 hp
          unfold LeftPost at hp
          obtain ⟨vl, zs, rfl, hi6, hr6, hz6, hg6, _⟩ := hp
          have HL6 := Lib.hid (HL5.out.grow hg6)
          have HGW6 := Lib.hid (HGW5.out.trans hg6)
          have HI6 := Lib.hid hi6
          have HZ6 := Lib.hid (show decide (b ∈ zs) = q by rw [HQ.out, ← leftP_get]; cases e : leftP s.all b with
            | true => exact decide_eq_true ((hr6.mem b).2 e)
            | false => exact decide_eq_false (fun h => by rw [(hr6.mem b).1 h] at e; cases e))
          have HL600 := Lib.hid hz6
          clear hi6 hr6 hz6 hg6 HL5 HGW5 HE HD5 HEQ
          go_wp2_with fail
          refine (has_ok HI6.out (Nat.le_trans HL600.out (by omega)) b).mono ?_
          rintro e w' ⟨rfl, rfl⟩
          rw [HZ6.out]
          go_wp2_with fail
          refine (in_ok HL6.out b).mono ?_
          intro e w7 hp
          obtain ⟨rfl, hg7⟩ := hp
          rw [← HIN.out]
          have HL7 := Lib.hid (HL6.out.grow hg7)
          have HGW7 := Lib.hid (HGW6.out.trans hg7)
          clear hg7 HL6 HGW6
          go_wp2_with fail
          refine (len_ok HL7.out).mono ?_
          rintro e w' ⟨rfl, rfl⟩
          rw [HNL.out, ← HM2.out]
          go_wp2_with fail
          refine (awake_ok _).mono ?_
          intro e w9 hp
          obtain ⟨rfl, hg9⟩ := hp
          have HG9 := Lib.hid (HGW7.out.trans hg9)
          clear hg9
          go_wp2_with fail
          go_ret
          exact ⟨rfl, HG9.out⟩
#print axioms newest_walk
end Go.Proofs.Ytokehhegomiciaa
