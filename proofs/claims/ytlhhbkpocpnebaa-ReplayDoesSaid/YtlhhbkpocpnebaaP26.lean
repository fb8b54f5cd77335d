/- quernref19.Overlay: the walk. -/
import Derived.Test.YtlhhbkpocpnebaaP26a
set_option linter.unusedVariables false
set_option linter.unusedSimpArgs false
namespace Go.Proofs.Ytlhhbkpocpnebaa
open Go.RowKit Go.Maps

/-- rows of copies that grow -/
structure OInv (W : World) (v : Value) (cs : List Cp) (wr : World) : Prop where
  row : CRow wr v cs
  lo : ∀ g, v.ownBlock = some g → W.heap.size ≤ g
  grow : Grow W wr
theorem OInv.later {W : World} {v : Value} {cs : List Cp} {wr w' : World} (h : OInv W v cs wr) (hg : Grow wr w') : OInv W v cs w' := ⟨h.row.grow hg, h.lo, Grow.trans h.grow hg⟩
theorem OInv.app {W wr w2 wa : World} {v v' : Value} {cs : List Cp} {c : Cp} (h : OInv W v cs wr) (ht : Grow wr w2) (ha : AppAtE 40 257 w2 v (cs.map ccell ++ [ccell c]) v' wa) (hta : Touch (ownL v) w2 wa) : OInv W v' (cs ++ [c]) wa where
  row := by unfold CRow; rw [List.map_append]; exact ha.1
  lo := fun g e => by
    rcases ha.2 with h1 | ⟨g', h1, h2⟩
    · exact h.lo g (h1 ▸ e)
    · rw [e] at h1; cases h1
      have := ht.size
      have := h.grow.size
      omega
  grow := by
    have h2 := Grow.trans h.grow ht
    exact Below.trans h2 (hta.below h2.size (fun j hj => h.lo _ (ownL_mem.1 hj)))
/-- what is known of a block's last copy: `f` is what was gone through -/
structure KSt (wo : World) (PC : Nat) (f : PM) (b : Int) (has : Bool) (wr : World) : Prop where
  grow : Grow wo wr
  obj : ∃ c, wr.heap[PC]? = some (.cells (ccell c).toArray 40) ∧ c.2.length = 256 ∧ (has = true → f b = some c)
  is : has = HasM f b
theorem KSt.later {wo : World} {PC : Nat} {f : PM} {b : Int} {has : Bool} {wr w' : World} (h : KSt wo PC f b has wr) (hg : Grow wr w') : KSt wo PC f b has w' := by
  obtain ⟨c, h1, h2, h3⟩ := h.obj
  exact ⟨Grow.trans h.grow hg, ⟨c, (hg.block _ (Array.getElem?_eq_some_iff.1 h1).1).trans h1, h2, h3⟩, h.is⟩
theorem KSt.cast {wo : World} {PC : Nat} {f f' : PM} {b : Int} {has : Bool} {wr : World} (h : KSt wo PC f b has wr) (hf : f' b = f b) : KSt wo PC f' b has wr := by
  obtain ⟨c, h1, h2, h3⟩ := h.obj
  exact ⟨h.grow, ⟨c, h1, h2, fun e => by rw [hf]; exact h3 e⟩, by rw [h.is]; unfold HasM; rw [hf]⟩
theorem outL_filter (f : PM) (zs : List Int) {k : Nat} {b : Int} (h : zs[k]? = some b) : outL f ((zs.take (k + 1)).filter (HasM f)) = outL f ((zs.take k).filter (HasM f)) ++ (if HasM f b = true then [(f b).getD zeroC] else []) := by
  rw [List.take_add_one, h, List.filter_append]
  unfold outL
  rw [List.map_append]
  congr 1
  show (([b].filter (HasM f)).map _) = _
  rw [List.filter_cons]
  split <;> rfl
theorem filter_rising {f : PM} {p : Int → Bool} {zs : List Int} (h : Rising p zs) (hp : ∀ z, HasM f z = true → p z = true) : Rising (HasM f) (zs.filter (HasM f)) :=
  ⟨h.lt.filter _, fun i => by rw [List.mem_filter, h.mem i]; exact ⟨fun h => h.2, fun h => ⟨hp i h, h⟩⟩⟩
set_option maxRecDepth 100000 in
set_option maxHeartbeats 16000000 in
theorem roverlay_ok {w : World} {v : Value} {xs : List TV} {L : List PT} (h : TRow w v xs) (hts : xs.map (·.t) = L) (hl : xs.length ≤ 10000) (hc : copyN L ≤ 100000) : Calls Try.prog 13 #[v] w (OverlayPost (ov L) w) := by
  have HS := Lib.hid h
  have HTS := Lib.hid hts
  have HCN := Lib.hid hc
  have HCP := Lib.hid (copied_ok h hts hl hc)
  have HOW := Lib.hid (own_ov L (fun t ht => by rw [← hts] at ht; obtain ⟨x, hx, rfl⟩ := List.mem_map.1 ht; exact (h.at_ x hx).ok))
  obtain ⟨m, hm⟩ : ∃ m, m = xs.length := ⟨_, rfl⟩
  have HM := Lib.hid hm
  have HLE := Lib.hid (show m = L.length by rw [hm, ← hts, List.length_map])
  obtain ⟨at0, ct, hv⟩ := h.len
  rw [← hm] at hv hl
  subst hv
  obtain ⟨ic, hic, hz0, hz1, hz2⟩ := info_parts info40
  have HIC := Lib.hid hic
  clear h hts hc hm hic
  go_enter Try.func13, Try.ntmps13
  go_wp2_with fail
  refine HCP.out.mono ?_
  intro e w1 hpost
  obtain ⟨vz, zs, he, hr, hri, hg, hzl⟩ := hpost
  subst he
  have HZ := Lib.hid hr
  have HRI := Lib.hid hri
  have HG1 := Lib.hid hg
  have HS1 := Lib.hid (HS.out.grow hg)
  obtain ⟨az, cz, hvz⟩ := IRow.len hr
  obtain ⟨nz, hnz⟩ : ∃ nz, nz = zs.length := ⟨_, rfl⟩
  rw [← hnz] at hvz
  subst hvz
  have HNZ := Lib.hid hnz
  have hzb : nz ≤ 100000 := by rw [hnz]; exact Nat.le_trans hzl HCN.out
  have HO0 := Lib.hid (show OInv w1 (.slice none 0 0) (outL (ov L) ((zs.take 0).filter (HasM (ov L)))) w1 from ⟨rowNil _ _ _, fun g e => (by cases e), Grow.refl _⟩)
  clear hr hri hg hnz hzl HCP
  go_wp2_with fail
  go_loopw [3, 5] (fun t3 t5 wr => ∃ i : Nat, t5 = .int .i64 (i : Int) ∧ i ≤ nz ∧ (∃ a3 n3 c3, t3 = .slice a3 n3 c3) ∧ Hid (OInv w1 t3 (outL (ov L) ((zs.take i).filter (HasM (ov L)))) wr)) (fun _ t5 _ => nz - (intOf t5).toNat)
  case atStart => exact ⟨0, by go_num, by omega, ⟨_, _, _, rfl⟩, HO0⟩
  case round =>
    obtain ⟨i, rfl, hin, ⟨a3, n3, c3, rfl⟩, HO⟩ := hrel
    clear HO0
    by_cases hi : i < nz
    · obtain ⟨b, hb⟩ : ∃ b, zs[i]? = some b := ⟨zs[i]'(by rw [← HNZ.out]; exact hi), by simp⟩
      have hrow := HZ.out.grow HO.out.grow
      obtain ⟨gz, cz', hvg, hgz⟩ := hrow.open_ (by rw [← HNZ.out]; omega)
      rw [← HNZ.out] at hvg
      cases hvg
      have HBI := Lib.hid hb
      have HCB := Lib.hid (And.intro hgz (hrow.cell hb))
      obtain ⟨Z, hZ⟩ : ∃ Z, Z = (ccell zeroC).toArray := ⟨_, rfl⟩
      have hz7 := zero40
      rw [← hZ] at hz7
      have HZC := Lib.hid hZ
      obtain ⟨wo, rfl⟩ : ∃ wo : World, wo = wr := ⟨_, rfl⟩
      have HK0 := Lib.hid (show KSt wo wo.heap.size (ov (L.take 0)) b false (wo.alloc (.cells Z 40)) from ⟨Grow.alloc _ _, ⟨zeroC, by rw [hZ]; exact heap_alloc_last _ _, zeroC_ok, fun e => (by cases e)⟩, rfl⟩)
      obtain ⟨PC, hPC⟩ : ∃ PC, PC = wo.heap.size := ⟨_, rfl⟩
      clear hb hrow hgz hZ
      go_wp2_with fail
      rw [← hPC] at HK0 ⊢
      have HPL := Lib.hid hPC
      clear hPC hz7
      go_loopw [7, 8] (fun t7 t8 wr => ∃ (k : Nat) (hs : Bool), t8 = .int .i64 (k : Int) ∧ k ≤ m ∧ t7 = .bool hs ∧ Hid (KSt wo PC (ov (L.take k)) b hs wr)) (fun _ t8 _ => m - (intOf t8).toNat)
      case atStart => exact ⟨0, false, by go_num, by omega, rfl, HK0⟩
      case round =>
        obtain ⟨k, hs, rfl, hkm, rfl, HK⟩ := hrel
        by_cases hk : k < m
        · obtain ⟨x, hx⟩ : ∃ x, xs[k]? = some x := ⟨xs[k]'(by rw [← HM.out]; exact hk), by simp⟩
          have HXT := Lib.hid (show L[k]? = some x.t by rw [← HTS.out, List.getElem?_map, hx]; rfl)
          have HXA := Lib.hid (HS.out.at_ x (List.mem_of_getElem? hx))
          obtain ⟨gt, cap', ac, nc, cc, ar, nr, cr, hv, _, q1, q2, hvc, hnc, hvr, hnr, _⟩ := HS.out.elem hx
          rw [← HM.out] at hv
          cases hv
          have HVC := Lib.hid hvc
          have HVR := Lib.hid hvr
          have HNC := Lib.hid hnc
          have HQ1 := Lib.hid (show w.cell? ⟨gt, k * 3 + 1, none⟩ = some (.slice ac nc cc) by rw [q1, hvc])
          have HQ2 := Lib.hid (show w.cell? ⟨gt, k * 3 + 2, none⟩ = some (.slice ar nr cr) by rw [q2, hvr])
          have HGL := Lib.hid (World.block_lt_of_cell? _ _ q1)
          have HGO := Lib.hid (Grow.trans HG1.out HO.out.grow)
          have hncb : nc ≤ 100000 := by
            have h1 := copyN_take HXT.out
            have h2 := copyN_le L (k + 1)
            have h3 := HCN.out
            omega
          have HK1 := Lib.hid (show KSt wo PC (putsG (ov (L.take k)) (x.t.cs.take 0)) b hs wr from by rw [List.take_zero]; exact HK.out)
          clear hx q1 q2 hvc hnc hvr hnr
          go_wp2_with fail
          go_loopw [7, 9] (fun t7 t9 wr => ∃ (j : Nat) (hs : Bool), t9 = .int .i64 (j : Int) ∧ j ≤ nc ∧ t7 = .bool hs ∧ Hid (KSt wo PC (putsG (ov (L.take k)) (x.t.cs.take j)) b hs wr)) (fun _ t9 _ => nc - (intOf t9).toNat)
          case atStart => exact ⟨0, hs, by go_num, by omega, rfl, HK1⟩
          case round =>
            obtain ⟨j, hs, rfl, hjn, rfl, HK⟩ := hrel
            have HGW := Lib.hid (Grow.trans HGO.out HK.out.grow)
            have hq1 : wr.cell? ⟨gt, k * 3 + 1, none⟩ = some (.slice ac nc cc) := (HGW.out.cell (p := ⟨gt, k * 3 + 1, none⟩) HGL.out).trans HQ1.out
            have b2 : (0 : Int) ≤ (k : Int) := by omega
            have b3 : (k : Int) < (m : Int) := by omega
            by_cases hj : j < nc
            · obtain ⟨c, hcj⟩ : ∃ c, x.t.cs[j]? = some c := ⟨x.t.cs[j]'(by rw [← HNC.out]; exact hj), by simp⟩
              have hrow := (HXA.out.grow HGW.out).cs
              rw [HVC.out] at hrow
              obtain ⟨gc, cc', hvg, _⟩ := hrow.open_ (by rw [← HNC.out]; omega)
              rw [← HNC.out] at hvg
              cases hvg
              have hcell : wr.cell? ⟨gc, j * 257, none⟩ = some (.int .i64 c.1) := hrow.range hcj 0 _ rfl
              have hzc : wr.cell? ⟨gz, i, none⟩ = some (.int .i64 b) := (HK.out.grow.cell (p := ⟨gz, i, none⟩) HCB.out.1).trans HCB.out.2
              have HRG := Lib.hid (hrow.range hcj)
              have HC2 := Lib.hid (hrow.blk (List.mem_of_getElem? hcj))
              have HCJ := Lib.hid hcj
              have b4 : (0 : Int) ≤ (j : Int) := by omega
              have b5 : (j : Int) < (nc : Int) := by omega
              have b6 : (0 : Int) ≤ (i : Int) := by omega
              have b7 : (i : Int) < (nz : Int) := by omega
              clear hcj hrow
              by_cases e : c.1 = b
              · have e0 : (c.1 == b) = true := by simp [e]
                have HE := Lib.hid e
                clear e
                go_upto_region 14 with (fail)
                go_quiet (fail)
                have HG3 := Lib.hid (grow_drewN wr nq)
                have hq1b := (HG3.out.cell (World.block_lt_of_cell? _ _ hq1)).trans hq1
                have HRGb := Lib.hid (show (wr.drewN nq).rangeAt gc (j * 257) (ccell c) from fun q u hu => (HG3.out.cell (p := ⟨gc, j * 257 + q, none⟩) (World.block_lt_of_cell? _ _ (HRG.out q u hu))).trans (HRG.out q u hu))
                have HKb := Lib.hid (HK.out.later HG3.out)
                generalize wr.drewN nq = w3 at *
                obtain ⟨c0, ho0, hc0, _⟩ := HKb.out.obj
                have HO0 := Lib.hid ho0
                have HSZ7 := Lib.hid (csizeL HC2.out)
                have HSY := Lib.hid (csize HC2.out)
                have HO1 := Lib.hid (all_oneCell_toArray (ccell_one c))
                have HZS := Lib.hid (show (ccell c0).toArray.size = (ccell c).toArray.size by rw [List.size_toArray, List.size_toArray, ccell_length hc0, ccell_length HC2.out])
                have HK2 := Lib.hid (show KSt wo PC (putsG (ov (L.take k)) (x.t.cs.take (j + 1))) b true (w3.setRow PC (ccell c).toArray) from by
                  have hf : putsG (ov (L.take k)) (x.t.cs.take (j + 1)) b = some c := by rw [putsG_take HCJ.out, ← HE.out]; exact putG_same _ _ _
                  exact ⟨below_setRow HKb.out.grow (by rw [HPL.out]; exact Nat.le_refl _) _, ⟨c, setRow_heap _ _ _ _ _ _ HO0.out, HC2.out, fun _ => hf⟩, by unfold HasM; rw [hf]; rfl⟩)
                generalize (ccell c0).toArray = X0 at *
                clear ho0 hc0 hq1 hcell hzc e0
                go_wp2_with (first | (refine wpList_load_mid rfl 40 _ rfl gc (j * 257) rfl (ccell c) _ HRGb.out Try.underlying40 rfl HSZ7.out ?_) | (refine wpList_store_row rfl 40 _ _ rfl PC (ccell c).toArray rfl rfl 40 X0 HO0.out HSY.out HZS.out HO1.out ?_))
                go_roundw
                case rel => exact ⟨j + 1, true, by go_num, by omega, rfl, HK2⟩
                case measure => simp [intOf]; omega
              · have e0 := beq_ff e
                have HK2 := Lib.hid (HK.out.cast (f' := putsG (ov (L.take k)) (x.t.cs.take (j + 1))) (by rw [putsG_take HCJ.out]; exact putG_other _ _ (fun h => e h.symm)))
                clear e
                go_upto_region 14 with (fail)
                go_quiet (fail)
                go_wp2
                go_roundw
                case rel => exact ⟨j + 1, hs, by go_num, by omega, rfl, Lib.hid (HK2.out.later (grow_drewN wr _))⟩
                case measure => simp [intOf]; omega
            · obtain rfl : j = nc := by omega
              have HKf := Lib.hid (show KSt wo PC (putsG (ov (L.take k)) x.t.cs) b hs wr by have := HK.out; rwa [HNC.out, List.take_length] at this)
              have HR2 := Lib.hid (show gt < wr.heap.size ∧ wr.cell? ⟨gt, k * 3 + 2, none⟩ = some (.slice ar nr cr) from ⟨Nat.lt_of_lt_of_le HGL.out HGW.out.size, (HGW.out.cell (p := ⟨gt, k * 3 + 2, none⟩) HGL.out).trans HQ2.out⟩)
              have HB := Lib.hid (show gz < wr.heap.size ∧ wr.cell? ⟨gz, i, none⟩ = some (.int .i64 b) from ⟨Nat.lt_of_lt_of_le HCB.out.1 HK.out.grow.size, (HK.out.grow.cell (p := ⟨gz, i, none⟩) HCB.out.1).trans HCB.out.2⟩)
              have HN := Lib.hid (show ∀ w', Grow wr w' → Calls Try.prog 35 #[.slice ar nr cr, .int .i64 b] w' fun e w'' => e = .returned (.bool (x.t.rs.any (· == b))) ∧ Grow w' w'' from fun w' hg => by
                have hrr := (HXA.out.grow (Grow.trans HGW.out hg)).rs
                rw [HVR.out] at hrr
                exact (names_ok (Row.see hrr) HXA.out.ok.rn b).mono fun e w'' ⟨h1, h2⟩ => ⟨h1, h2 ▸ Grow.refl _⟩)
              obtain ⟨RB, hRB⟩ : ∃ RB, RB = x.t.rs.any (· == b) := ⟨_, rfl⟩
              rw [← hRB] at HN
              have HRB := Lib.hid hRB
              clear hRB
              go_upto_region 17 with (fail)
              clear hq1
              refine roverlay_reg17 i k m nz gt ct gz cz nr cr ar b wr hk (by omega) hi (by omega) HR2 HB RB HN _ _ _ _ _ _ _ _ _ _ _ _ _ _ _ _ _ _ _ _ _ _ _ _ _ _ _ _ _ _ _ _ _ _ _ _ _ _ _ _ _ _ _ _ _ _ _ _ _ _ _ _ _ _ _ _ _ _ _ _ _ _ _ _ _ _ _ _ _ (Lib.hid ?hroverlayreg171)
              intro u56 u57 u58 u59 u60 u61 u62 u63 u64 W2 hRW2
              have hg2 : Grow wr W2 := hRW2.below (Nat.le_refl _) (by simp)
              have HK2 := Lib.hid (HKf.out.later hg2)
              clear hRW2 hg2 HB HR2 HN
              cases hrb : RB with
              | true =>
                have HK3 := Lib.hid (show KSt wo PC (ov (L.take (k + 1))) b false W2 from by
                  have hn : ov (L.take (k + 1)) b = none := by
                    rw [ov_take HXT.out]
                    exact delsG_none _ (.inr (anyB_iff.1 (by rw [← HRB.out, hrb])))
                  obtain ⟨c, h1, h2, _⟩ := HK2.out.obj
                  exact ⟨HK2.out.grow, ⟨c, h1, h2, fun e => (by cases e)⟩, by unfold HasM; rw [hn]; rfl⟩)
                clear hrb
                go_wp2_with fail
                go_roundw
                case rel => exact ⟨k + 1, false, by go_num, by omega, rfl, HK3⟩
                case measure => simp [intOf]; omega
              | false =>
                have HK3 := Lib.hid (HK2.out.cast (f' := ov (L.take (k + 1))) (by rw [ov_take HXT.out]; exact delsG_other _ (fun hm => by have := anyB_iff.2 hm; rw [← HRB.out, hrb] at this; cases this)))
                clear hrb
                go_wp2_with fail
                go_roundw
                case rel => exact ⟨k + 1, hs, by go_num, by omega, rfl, HK3⟩
                case measure => simp [intOf]; omega
        · obtain rfl : k = m := by omega
          have HKF := Lib.hid (show KSt wo PC (ov L) b hs wr by have := HK.out; rwa [HLE.out, List.take_length] at this)
          have HOb := Lib.hid (HO.out.later HK.out.grow)
          have HOF := Lib.hid (outL_filter (ov L) zs HBI.out)
          have HIS := Lib.hid HKF.out.is
          cases hs with
          | true =>
            obtain ⟨c, ho, hc2, hf⟩ := HKF.out.obj
            have HFc := Lib.hid (hf rfl)
            have HO2 := Lib.hid ho
            have HC2 := Lib.hid hc2
            have HSY := Lib.hid (csize hc2)
            have HLz := Lib.hid (show (outL (ov L) ((zs.take i).filter (HasM (ov L)))).length + 1 ≤ 1000000 by
              unfold outL
              rw [List.length_map]
              have h1 := List.length_filter_le (HasM (ov L)) (zs.take i)
              rw [List.length_take] at h1
              have h2 : min i zs.length ≤ zs.length := Nat.min_le_right _ _
              have h3 := HNZ.out
              omega)
            clear ho hc2 hf
            go_wp2_with (first | (refine wpList_load_row rfl 40 _ rfl PC rfl 40 (ccell c).toArray (0, 0) _ HO2.out Try.underlying40 rfl HSY.out ?_) | (refine wpList_buildSlice rfl 33 1 _ rfl (by simp only [List.map_toArray, List.map_cons, List.map_nil]; exact buildSlice_copy c HC2.out _) ?_) | (at_builtin; refine wpList_append_row rfl _ _ 33 rfl 40 ic (.agg (ccell zeroC).toArray) 257 264 Try.underlying33 HIC.out hz0 hz1 hz2 (by show (ccell zeroC).toArray.size = 257; rw [List.size_toArray, ccell_length zeroC_ok]) (by omega) (.slice a3 n3 c3) ((outL (ov L) ((zs.take i).filter (HasM (ov L)))).map ccell) rfl (Row.kept HOb.out.row (Touch.alloc [] _ _) (by simp)) _ 1 (ccell c) rfl (ccell_length HC2.out) (new_cells _ _ _) (ccell_one c) (by rw [List.length_map]; exact HLz.out) (by omega) ?_; intro v' wa happ htch))
            have HO3 := Lib.hid (show OInv w1 v' (outL (ov L) ((zs.take (i + 1)).filter (HasM (ov L)))) wa from by
              rw [HOF.out, if_pos HIS.out.symm, HFc.out]
              exact HOb.out.app (Grow.alloc _ _) happ htch)
            clear happ htch
            obtain ⟨a4, n4, c4, rfl⟩ := rowSlice HO3.out.row
            go_roundw
            case rel => exact ⟨i + 1, by go_num, by omega, ⟨_, _, _, rfl⟩, HO3⟩
            case measure => simp [intOf]; omega
          | false =>
            have HO3 := Lib.hid (show OInv w1 (.slice a3 n3 c3) (outL (ov L) ((zs.take (i + 1)).filter (HasM (ov L)))) wr from by
              rw [HOF.out, ← HIS.out, if_neg (by simp), List.append_nil]
              exact HOb.out)
            go_wp2_with fail
            go_roundw
            case rel => exact ⟨i + 1, by go_num, by omega, ⟨_, _, _, rfl⟩, HO3⟩
            case measure => simp [intOf]; omega
    · obtain rfl : i = nz := by omega
      have HOF := Lib.hid (show OInv w1 (.slice a3 n3 c3) (outL (ov L) (zs.filter (HasM (ov L)))) wr by have := HO.out; rwa [HNZ.out, List.take_length] at this)
      have HRF := Lib.hid (filter_rising (f := ov L) HRI.out (fun z hz => decide_eq_true (Classical.byContradiction fun hn => by unfold HasM at hz; rw [ov_copied L z hn] at hz; cases hz)))
      have HGF := Lib.hid (Grow.trans HG1.out HOF.out.grow)
      have HLO := Lib.hid (show ∀ g, (Value.slice a3 n3 c3).ownBlock = some g → w.heap.size ≤ g from fun g e => Nat.le_trans HG1.out.size (HOF.out.lo g e))
      clear HO
      go_wp2_with fail
      go_ret
      exact ⟨_, _, rfl, HRF.out, HOF.out.row, HGF.out, HLO.out⟩
#print axioms roverlay_ok
end Go.Proofs.Ytlhhbkpocpnebaa
