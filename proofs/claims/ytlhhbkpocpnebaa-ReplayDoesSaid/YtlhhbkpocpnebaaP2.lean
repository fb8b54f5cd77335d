/- replay.Overlay: the walk. -/
import Derived.Test.YtlhhbkpocpnebaaP1
set_option linter.unusedVariables false
set_option linter.unusedSimpArgs false
namespace Go.Proofs.Ytlhhbkpocpnebaa
open Go.RowKit Go.Maps

/-- the map of the copies so far -/
structure MSt (bm : Nat) (w : World) (f : PM) (N : Nat) (wr : World) : Prop where
  map : ∃ D n, wr.ownsMap Try.prog 3 copyK.elem bm n D ∧ GMap copyK D f ∧ n ≤ N
  grow : Grow w wr
  lo : w.heap.size ≤ bm
theorem MSt.lt {bm : Nat} {w : World} {f : PM} {N : Nat} {wr : World} (h : MSt bm w f N wr) : bm < wr.heap.size := by
  obtain ⟨D, n, h1, _⟩ := h.map
  exact h1.lt
theorem MSt.touch {bm : Nat} {w : World} {f : PM} {N : Nat} {wr w2 : World} (h : MSt bm w f N wr) (hg : Grow wr w2) : MSt bm w f N w2 where
  map := by obtain ⟨D, n, h1, h2, h3⟩ := h.map; exact ⟨D, n, ownsMap_touch h1 (Touch.of_below (S := []) hg) (by simp), h2, h3⟩
  grow := Grow.trans h.grow hg
  lo := h.lo
theorem MSt.turned {bm : Nat} {w : World} {f f' : PM} {N n' N' : Nat} {wr w2 : World} (h : MSt bm w f N wr) {D : DataW Value} (ho : w2.ownsMap Try.prog 3 copyK.elem bm n' D) (hm : GMap copyK D f') (hn : n' ≤ N') (hg : wr.grownBy w2 (some bm)) : MSt bm w f' N' w2 where
  map := ⟨D, n', ho, hm, hn⟩
  grow := Below.trans h.grow ((Touch.grown (S := [bm]) hg (fun k e => by cases e; simp)).below h.grow.size (fun j hj => by rw [List.mem_singleton.1 hj]; exact h.lo))
  lo := h.lo
theorem MSt.cast {bm : Nat} {w : World} {f f' : PM} {N N' : Nat} {wr : World} (h : MSt bm w f N wr) (hf : f = f') (hn : N ≤ N') : MSt bm w f' N' wr := by
  subst hf
  exact ⟨by obtain ⟨D, n, h1, h2, h3⟩ := h.map; exact ⟨D, n, h1, h2, by omega⟩, h.grow, h.lo⟩
theorem run_copied (W : World) (c : Cp) (hc : c.2.length = 256) : ∀ j u, (ccell c)[j]? = some u → ((W.alloc (.cells (ccell zeroC).toArray 40)).setRow W.heap.size (ccell c).toArray).cell? ((⟨W.heap.size, 0, none⟩ : Addr).add j) = some u :=
  cells_add (setRow_heap _ _ _ _ _ _ (heap_alloc_last _ _))
structure KInv (f : PM) (D : DataW Value) (bm r : Nat) (n : Nat) (w : World) (left : Lit → Bool) (cnt : Nat) (zs : List Int) (v : Value) (wr : World) : Prop where
  rng : wr.ranges Try.prog 3 copyK.elem bm r n D left cnt
  row : IRow wr v zs
  is : Coll (HasM f) left zs
  grow : Grow w wr
  vl : ∀ g, v.ownBlock = some g → w.heap.size ≤ g ∧ g ≠ bm ∧ g ≠ r
  lo : w.heap.size ≤ bm ∧ w.heap.size ≤ r
  len : zs.length + cnt ≤ n
theorem KInv.app {f : PM} {D : DataW Value} {bm r n : Nat} {w : World} {left left' : Lit → Bool} {cnt cnt' : Nat} {zs : List Int} {v v' : Value} {wr w1 w2 wa : World} {z : Int} (h : KInv f D bm r n w left cnt zs v wr) (hr : w1.ranges Try.prog 3 copyK.elem bm r n D left' cnt') (hg : wr.grownBy w1 (some r)) (hlt : cnt' < cnt) (hi : Coll (HasM f) left' (zs ++ [z])) (ht : Grow w1 w2)
    (ha : AppAtE 3 1 w2 v (zs.map icell ++ [icell z]) v' wa) (hta : Touch (ownL v) w2 wa) : KInv f D bm r n w left' cnt' (zs ++ [z]) v' wa where
  rng := ranges_touch (ranges_touch hr (Touch.of_below (S := []) ht) (by simp) (by simp)) hta (fun hm => (h.vl _ (ownL_mem.1 hm)).2.1 rfl) (fun hm => (h.vl _ (ownL_mem.1 hm)).2.2 rfl)
  row := by unfold IRow; rw [List.map_append]; exact ha.1
  is := hi
  grow := by
    have h1 : Grow w w1 := Below.trans h.grow ((Touch.grown (S := [r]) hg (fun k e => by cases e; simp)).below h.grow.size (fun j hj => by rw [List.mem_singleton.1 hj]; exact h.lo.2))
    have h2 := Grow.trans h1 ht
    exact Below.trans h2 (hta.below h2.size (fun j hj => (h.vl _ (ownL_mem.1 hj)).1))
  vl := fun g e => by
    have h1 : Grow w w1 := Below.trans h.grow ((Touch.grown (S := [r]) hg (fun k e => by cases e; simp)).below h.grow.size (fun j hj => by rw [List.mem_singleton.1 hj]; exact h.lo.2))
    rcases ha.2 with h1 | ⟨g', h1, h2⟩
    · exact h.vl g (h1 ▸ e)
    · rw [e] at h1; cases h1
      have h3 := hr.lt
      have h4 := ht.size
      have h5 : bm < w1.heap.size := by obtain ⟨es, clock, since, seen, c0, q1, _⟩ := hr; exact (Array.getElem?_eq_some_iff.1 q1).1
      have h6 := h.grow.size
      have h7 := hg.size
      exact ⟨by omega, by omega, by omega⟩
  lo := h.lo
  len := by rw [List.length_append]; have := h.len; simp; omega
def OverlayPost (f : PM) (w : World) (e : Ending) (w' : World) : Prop := ∃ v zs, e = .returned v ∧ Rising (HasM f) zs ∧ CRow w' v (outL f zs) ∧ Grow w w' ∧ ∀ g, v.ownBlock = some g → w.heap.size ≤ g
/-- a round of the last loop -/
structure FInv (f : PM) (D : DataW Value) (bm n : Nat) (w : World) (vz : Value) (zs : List Int) (k : Nat) (v : Value) (wr : World) : Prop where
  map : wr.ownsMap Try.prog 3 copyK.elem bm n D
  zrow : IRow wr vz zs
  row : CRow wr v (outL f (zs.take k))
  grow : Grow w wr
  vl : ∀ g, v.ownBlock = some g → w.heap.size ≤ g ∧ g ≠ bm ∧ vz.ownBlock ≠ some g
theorem FInv.app {f : PM} {D : DataW Value} {bm n : Nat} {w : World} {vz : Value} {zs : List Int} {k : Nat} {v v' : Value} {wr w2 wa : World} {z : Int} (h : FInv f D bm n w vz zs k v wr) (hz : zs[k]? = some z) (ht : Grow wr w2)
    (ha : AppAtE 40 257 w2 v ((outL f (zs.take k)).map ccell ++ [ccell ((f z).getD zeroC)]) v' wa) (hta : Touch (ownL v) w2 wa) : FInv f D bm n w vz zs (k + 1) v' wa where
  map := ownsMap_touch (ownsMap_touch h.map (Touch.of_below (S := []) ht) (by simp)) hta (fun hm => (h.vl _ (ownL_mem.1 hm)).2.1 rfl)
  zrow := Row.kept (h.zrow.grow ht) hta (fun g e hm => (h.vl _ (ownL_mem.1 hm)).2.2 e)
  row := by
    unfold CRow
    have : (outL f (zs.take (k + 1))).map ccell = (outL f (zs.take k)).map ccell ++ [ccell ((f z).getD zeroC)] := by
      unfold outL; rw [List.take_add_one, hz, List.map_append, List.map_append]; rfl
    rw [this]; exact ha.1
  grow := by
    have h2 := Grow.trans h.grow ht
    exact Below.trans h2 (hta.below h2.size (fun j hj => (h.vl _ (ownL_mem.1 hj)).1))
  vl := fun g e => by
    rcases ha.2 with h1 | ⟨g', h1, h2⟩
    · exact h.vl g (h1 ▸ e)
    · rw [e] at h1; cases h1
      have h3 := h.map.lt
      have h4 := ht.size
      have h6 := h.grow.size
      exact ⟨by omega, by omega, fun hm => by have := Row.lt h.zrow hm; omega⟩
/-- an int in one letter -/
structure CB where
  c : Cp
theorem copy_mk (c : Cp) (h : c.2.length = 256) : copyK.elem (.agg (ccell c).toArray) = some (.held (copyK.vv c), []) := copyK.elem_mk c h
theorem MSt.own {bm : Nat} {w : World} {f : PM} {N : Nat} {wr : World} (h : MSt bm w f N wr) : ∃ D n, Hid (wr.ownsMap Try.prog 3 copyK.elem bm n D) ∧ Hid (GMap copyK D f) ∧ Hid (n ≤ N) := by
  obtain ⟨D, n, h1, h2, h3⟩ := h.map
  exact ⟨D, n, Lib.hid h1, Lib.hid h2, Lib.hid h3⟩
set_option maxRecDepth 100000 in
set_option maxHeartbeats 8000000 in
theorem overlay_ok {w : World} {v : Value} {xs : List TV} (h : TRow w v xs) (hl : xs.length ≤ 10000) (hc : copyN (xs.map (·.t)) ≤ 100000) : Calls Try.prog 14 #[v] w (OverlayPost (ov (xs.map (·.t))) w) := by
  have HT := Lib.hid h
  have HC := Lib.hid hc
  have hmm := @run_makeMap Try.prog
  obtain ⟨a, cap, hv⟩ := h.len
  obtain ⟨n, hn⟩ : ∃ n, n = xs.length := ⟨_, rfl⟩
  have HN := Lib.hid hn
  rw [← hn] at hv hl
  subst hv
  obtain ⟨bm, hbm⟩ : ∃ bm, bm = w.heap.size := ⟨_, rfl⟩
  have HM0 := Lib.hid (show MSt w.heap.size w (ov ((xs.map (·.t)).take 0)) (copyN ((xs.map (·.t)).take 0)) (w.alloc (.map #[] 0)) from ⟨⟨.map [], 0, World.ownsMap_made w _ _ _, GMap.empty _, Nat.zero_le _⟩, Grow.alloc _ _, Nat.le_refl _⟩)
  have hz7 := zero40
  have HZS := Lib.hid (fun (c : Cp) (hc : c.2.length = 256) => zsize hc)
  have HCP := Lib.hid (show ∀ (W : World) (c : Cp), ((W.alloc (.cells (ccell zeroC).toArray 40)).setRow W.heap.size (ccell c).toArray).heap[W.heap.size]? = some (.cells (ccell c).toArray 40) from fun W c => setRow_heap _ _ _ _ _ _ (heap_alloc_last W _))
  have HTC := Lib.hid (fun (W : World) (c : Cp) => show Grow W ((W.alloc (.cells (ccell zeroC).toArray 40)).setRow W.heap.size (ccell c).toArray) from below_setRow ((Below.refl _ _).alloc (Nat.le_refl _) _) (Nat.le_refl _) _)
  generalize (ccell zeroC).toArray = Z at *
  clear h hc hn
  go_enter Try.func14, Try.ntmps14
  go_wp2
  rw [← hbm] at *
  go_loopw [17] (fun t17 wr => ∃ k : Nat, t17 = .int .i64 (k : Int) ∧ k ≤ n ∧ Hid (MSt bm w (ov ((xs.map (·.t)).take k)) (copyN ((xs.map (·.t)).take k)) wr)) (fun t17 _ => n - (intOf t17).toNat)
  case atStart => exact ⟨0, by go_num, by omega, HM0⟩
  case round =>
    obtain ⟨k, rfl, hkn, HM⟩ := hrel
    clear HM0
    by_cases hk : k < n
    · obtain ⟨x, hx⟩ : ∃ x, xs[k]? = some x := ⟨xs[k]'(by rw [← HN.out]; exact hk), by simp⟩
      have HX := Lib.hid (HT.out.at_ x (List.mem_of_getElem? hx))
      have HXT := Lib.hid (show (xs.map (·.t))[k]? = some x.t by rw [List.getElem?_map, hx]; rfl)
      obtain ⟨g, cap', ac, nc, cc, ar, nr, cr, hv, c0, c1, c2, hvc, hnc, hvr, hnr, _⟩ := (HT.out.grow HM.out.grow).elem hx
      rw [← HN.out] at hv
      cases hv
      rw [hvc] at c1
      rw [hvr] at c2
      have HVC := Lib.hid hvc
      have HVR := Lib.hid hvr
      have HNC := Lib.hid hnc
      have HNR := Lib.hid hnr
      have HXK := Lib.hid hx
      have hncb : nc ≤ 100000 := by
        have h1 := copyN_take HXT.out
        have h2 := copyN_le (xs.map (·.t)) (k + 1)
        have h3 := HC.out
        omega
      have hrnb : nr ≤ 1000000 := by rw [hnr]; exact HX.out.ok.rn
      have HM1 := Lib.hid (HM.out.cast (f' := putsG (ov ((xs.map (·.t)).take k)) (x.t.cs.take 0)) (N' := copyN ((xs.map (·.t)).take k) + 0) rfl (Nat.le_refl _))
      clear hvc hvr hnc hnr hx c0
      go_wp2
      obtain ⟨wo, rfl⟩ : ∃ wo : World, wo = wr := ⟨_, rfl⟩
      go_loopw [26] (fun t26 wi => ∃ j : Nat, t26 = .int .i64 (j : Int) ∧ j ≤ nc ∧ Hid (MSt bm w (putsG (ov ((xs.map (·.t)).take k)) (x.t.cs.take j)) (copyN ((xs.map (·.t)).take k) + j) wi)) (fun t26 _ => nc - (intOf t26).toNat)
      case atStart => exact ⟨0, by go_num, by omega, HM1⟩
      case round =>
        obtain ⟨j, rfl, hjn, HMj⟩ := hrel
        by_cases hj : j < nc
        · obtain ⟨c, hcj⟩ : ∃ c, x.t.cs[j]? = some c := ⟨x.t.cs[j]'(by rw [← HNC.out]; exact hj), by simp⟩
          have hco := HX.out.ok.cs c (List.mem_of_getElem? hcj)
          have hrow := (HX.out.grow HMj.out.grow).cs
          rw [HVC.out] at hrow
          obtain ⟨gc, cc', hvg, _⟩ := hrow.open_ (by rw [← HNC.out]; omega)
          rw [← HNC.out] at hvg
          cases hvg
          have HRG := Lib.hid (hrow.range hcj)
          have HCO := Lib.hid hco.2
          have HKO := Lib.hid (keyOf_ik hco.1)
          have HIO := Lib.hid hco.1
          have HSZ := Lib.hid (csizeL hco.2)
          have HSY := Lib.hid (csize hco.2)
          have HO1 := Lib.hid (all_oneCell_toArray (ccell_one c))
          have HCJ := Lib.hid hcj
          clear hcj hco hrow
          go_upto_region 8 with (first | (refine wpList_load_mid rfl 40 _ rfl gc (j * 257) rfl (ccell c) _ HRG.out Try.underlying40 rfl HSZ.out ?_) | (refine wpList_store_row rfl 40 _ _ rfl wr.heap.size (ccell c).toArray rfl rfl 40 Z (heap_alloc_last _ _) HSY.out (HZS.out c HCO.out) HO1.out ?_))
          have HH2 := Lib.hid (HCP.out wr c)
          have HG2 := Lib.hid (HTC.out wr c)
          have hsz2 := (HG2.out).size
          generalize (wr.alloc (.cells Z 40)).setRow wr.heap.size (ccell c).toArray = W2 at *
          have HM2 := Lib.hid (HMj.out.touch HG2.out)
          obtain ⟨D, nn, HO, HGM, HNN⟩ := HM2.out.own
          have hcell : W2.cell? ⟨wr.heap.size, 0, none⟩ = some (.int .i64 c.1) := cell_at HH2.out 0
          have HB := Lib.hid (show nn < maxLen by have h1 := HNN.out; have h2 := copyN_take HXT.out; have h3 := copyN_le (xs.map (·.t)) (k + 1); have h4 := HC.out; unfold maxLen; omega)
          go_wp2_with (first | (refine wpList_load_row rfl _ _ rfl wr.heap.size rfl 40 _ (0, 0) _ HH2.out Try.underlying40 rfl HSY.out ?_) | (at_mapUpdate; refine wpList_mapUpdate_in _ rfl _ _ _ 74 rfl 3 40 keyInt Try.underlying74 _ bm nn D rfl HO.out HB.out _ _ (ik c.1) rfl rfl HKO.out _ [] (copy_mk c HCO.out) ?_; intro w1 hown1 hturn1))
          have HM3 := Lib.hid ((HM2.out.turned hown1 (HGM.out.put HO.out.isMap HIO.out HCO.out) (Nat.succ_le_succ HNN.out) hturn1.grown).cast (f' := putsG (ov ((xs.map (·.t)).take k)) (x.t.cs.take (j + 1))) (N' := copyN ((xs.map (·.t)).take k) + (j + 1)) (putsG_take HCJ.out).symm (by omega))
          clear hown1 hturn1
          go_roundw
          case rel => exact ⟨j + 1, by go_num, by omega, HM3⟩
          case measure => simp [intOf]; omega
        · obtain rfl : j = nc := by omega
          have HM4 := Lib.hid (HMj.out.cast (f' := delsG (putsG (ov ((xs.map (·.t)).take k)) x.t.cs) (x.t.rs.take 0)) (N' := copyN ((xs.map (·.t)).take (k + 1))) (by rw [HNC.out, List.take_length]; rfl) (by rw [copyN_take HXT.out, HNC.out]; exact Nat.le_refl _))
          obtain ⟨g2, cap2, ac2, nc2, cc2, ar2, nr2, cr2, hv2, c02, c12, c22, hvc2, hnc2, hvr2, hnr2, _⟩ := (HT.out.grow HMj.out.grow).elem HXK.out
          rw [HVR.out] at hvr2
          rw [← HN.out] at hv2
          cases hv2
          cases hvr2
          rw [HVR.out] at c22
          clear c02 c12 hvc2 hnc2 hnr2 c1 c2
          go_wp2
          obtain ⟨wp, rfl⟩ : ∃ wp : World, wp = wr := ⟨_, rfl⟩
          go_loopw [41] (fun t41 wi => ∃ i : Nat, t41 = .int .i64 (i : Int) ∧ i ≤ nr ∧ Hid (MSt bm w (delsG (putsG (ov ((xs.map (·.t)).take k)) x.t.cs) (x.t.rs.take i)) (copyN ((xs.map (·.t)).take (k + 1))) wi)) (fun t41 _ => nr - (intOf t41).toNat)
          case atStart => exact ⟨0, by go_num, by omega, HM4⟩
          case round =>
            obtain ⟨i, rfl, hin, HMi⟩ := hrel
            by_cases hi : i < nr
            · obtain ⟨r, hri⟩ : ∃ r, x.t.rs[i]? = some r := ⟨x.t.rs[i]'(by rw [← HNR.out]; exact hi), by simp⟩
              have hro := HX.out.ok.rs r (List.mem_of_getElem? hri)
              have hrow := (HX.out.grow HMi.out.grow).rs
              rw [HVR.out] at hrow
              obtain ⟨gr, cr', hvg, _⟩ := hrow.open_ (by rw [← HNR.out]; omega)
              rw [← HNR.out] at hvg
              cases hvg
              have hcell := hrow.cell hri
              have HKO := Lib.hid (keyOf_ik hro)
              have HRI := Lib.hid hri
              obtain ⟨D, nn, HO, HGM, HNN⟩ := HMi.out.own
              clear hri hro hrow
              go_wp2_with (first | (at_delete; refine wpList_delete_own _ rfl _ _ 74 3 rfl 40 keyInt Try.underlying74 _ bm nn D rfl HO.out _ (ik r) rfl HKO.out ?_; intro w1 hown1 hturn1))
              have HM3 := Lib.hid ((HMi.out.turned hown1 (HGM.out.del r) HNN.out hturn1.grown).cast (f' := delsG (putsG (ov ((xs.map (·.t)).take k)) x.t.cs) (x.t.rs.take (i + 1))) (N' := copyN ((xs.map (·.t)).take (k + 1))) (delsG_take HRI.out).symm (Nat.le_refl _))
              clear hown1 hturn1
              go_roundw
              case rel => exact ⟨i + 1, by go_num, by omega, HM3⟩
              case measure => simp [intOf]; omega
            · obtain rfl : i = nr := by omega
              have HM5 := Lib.hid (HMi.out.cast (f' := ov ((xs.map (·.t)).take (k + 1))) (N' := copyN ((xs.map (·.t)).take (k + 1))) (by rw [ov_take HXT.out, HNR.out, List.take_length]) (Nat.le_refl _))
              go_wp2
              go_roundw
              case rel => exact ⟨k + 1, by go_num, by omega, HM5⟩
              case measure => simp [intOf]; omega
    · obtain rfl : k = n := by omega
      have HM6 := Lib.hid (HM.out.cast (f' := ov (xs.map (·.t))) (N' := 100000) (by rw [HN.out, show xs.length = (xs.map (·.t)).length by simp, List.take_length]) (Nat.le_trans (copyN_le _ _) HC.out))
      have HOW := Lib.hid (own_ov (xs.map (·.t)) (fun t ht => by obtain ⟨x, hx, rfl⟩ := List.mem_map.1 ht; exact (HT.out.at_ x hx).ok))
      clear hbm
      obtain ⟨f, hf⟩ : ∃ f, f = ov (xs.map (·.t)) := ⟨_, rfl⟩
      rw [← hf] at HM6 HOW
      have HFE := Lib.hid hf
      clear hf
      obtain ⟨D, nn, HO, HGM, HNN⟩ := HM6.out.own
      have HSZ := Lib.hid (HO.out.size_le)
      have HG6 := Lib.hid HM6.out.grow
      have HLO := Lib.hid HM6.out.lo
      have HLT := Lib.hid HM6.out.lt
      have HHas := Lib.hid HGM.out.has
      obtain ⟨i0, hi0, hz0, hz1, hz2⟩ := info_parts info3
      have HI0 := Lib.hid hi0
      obtain ⟨sz, hsz⟩ : ∃ sz, sz = Maps.size D := ⟨_, rfl⟩
      have hszb : sz ≤ 100000 := by rw [hsz]; exact Nat.le_trans HSZ.out HNN.out
      have HSZe := Lib.hid hsz
      clear hsz hi0 HM HM6 HT
      obtain ⟨wo, rfl⟩ : ∃ wo : World, wo = wr := ⟨_, rfl⟩
      go_upto_region 17 with (first | (at_len; refine wpList_len_own _ rfl _ 74 rfl 3 40 Try.underlying74 copyK.elem bm nn D rfl HO.out ?_; rw [← HSZe.out]) | (refine wpList_make_row rfl 53 _ _ rfl 3 i0 (.int .i64 0) 1 8 Try.underlying53 HI0.out hz0 hz1 hz2 sz rfl rfl (by omega) (by omega) ?_; intro w1 hrow1 hg1))
      have HO1 := Lib.hid (show w1.ownsMap Try.prog 3 copyK.elem bm nn D from ownsMap_touch HO.out (Touch.of_below (S := []) hg1) (by simp))
      have HRW1 := Lib.hid (show IRow w1 (.slice (some ⟨wo.heap.size, 0, none⟩) 0 sz) [] from hrow1)
      have HG1 := Lib.hid (Grow.trans HG6.out hg1)
      have HL1 := Lib.hid (show wo.heap.size < w1.heap.size from Row.lt hrow1 rfl)
      have HL2 := Lib.hid (show w.heap.size ≤ wo.heap.size from HG6.out.size)
      clear hrow1 hg1 HO
      go_wp2_with (first | (at_range; refine wpList_range_own _ rfl _ 74 rfl 3 40 keyInt Try.underlying74 copyK.elem bm nn D rfl HO1.out ?_; intro w0 hrg0 hg0 hs0; rw [← HSZe.out] at hrg0))
      go_frame
      have HI := Lib.hid (show KInv f D bm w1.heap.size nn w (Maps.has D) sz [] (.slice (some ⟨wo.heap.size, 0, none⟩) 0 sz) w0 from { rng := hrg0, row := Row.kept HRW1.out (Touch.grown (S := []) hg0 (by simp)) (by simp), is := Coll.start HHas.out, grow := Grow.trans HG1.out ((Touch.grown (S := []) hg0 (by simp)).below (Nat.le_refl _) (by simp)), vl := fun g e => (by have h0 := HLT.out; have h1 := HL1.out; have h2 := HL2.out; simp only [Value.ownBlock, Option.some.injEq] at e; subst e; omega), lo := (by have h1 := HL1.out; have h2 := HL2.out; exact ⟨HLO.out, by omega⟩), len := (by have := HSZ.out; have := HSZe.out; simp only [List.length_nil]; omega) })
      clear hrg0 hg0 hs0 HRW1
      go_loopw [9] (fun t9 wr => ∃ (left : Lit → Bool) (cnt : Nat) (zs : List Int), (∃ a9 n9 c9, t9 = .slice a9 n9 c9) ∧ Hid (KInv f D bm w1.heap.size nn w left cnt zs t9 wr)) (fun _ wr => wr.rangeLeft bm w1.heap.size)
      case atStart => exact ⟨_, _, [], ⟨_, _, _, rfl⟩, HI⟩
      case round =>
        obtain ⟨left, cnt, zs, ⟨a9, n9, c9, rfl⟩, HI⟩ := hrel
        go_wp2_with (first | (at_next; refine wpList_next_ranges _ rfl _ rfl 3 keyInt copyK.elem (fun x : Int => Value.int .i64 x) (fun y : CB => Value.agg (ccell y.c).toArray) (fun key l hk => by obtain ⟨r, _, h2, _⟩ := keyOf_ik_inv hk; exact ⟨r, h2⟩) (fun v y hv => by obtain ⟨x, _, h2, _⟩ := EK.elem_inv hv; exact ⟨⟨x⟩, h2⟩) bm w1.heap.size nn _ _ _ rfl HI.out.rng ?_ ?_))
        · intro _ hl0
          have HF := Lib.hid (HI.out.is.done hl0)
          have HLn := Lib.hid (show zs.length ≤ 100000 by have := HI.out.len; have := HNN.out; omega)
          clear hl0
          go_wp2_with fail
          refine (sort_ints HI.out.row (Nat.le_trans HLn.out (by omega))).mono ?_
          intro e w2 hpost
          obtain ⟨he, hr2, ht2⟩ := hpost
          subst he
          have HO2 := Lib.hid (show w2.ownsMap Try.prog 3 copyK.elem bm nn D from ownsMap_touch HI.out.rng.owns ht2 (fun hm => (HI.out.vl _ (ownL_mem.1 hm)).2.1 rfl))
          have HG2 := Lib.hid (show Grow w w2 from Below.trans HI.out.grow (ht2.below HI.out.grow.size (fun j hj => (HI.out.vl _ (ownL_mem.1 hj)).1)))
          have HR2 := Lib.hid hr2
          obtain ⟨az, cz, hv9⟩ := hr2.len
          obtain ⟨nz, hnz⟩ : ∃ nz, nz = (sortI zs).length := ⟨_, rfl⟩
          rw [List.length_map, ← hnz] at hv9
          have HNZ := Lib.hid hnz
          have hnzb : nz ≤ 100000 := by rw [hnz, sortI_length]; exact HLn.out
          have HVL := Lib.hid (show ∀ g, (Value.slice a9 n9 c9).ownBlock = some g → w.heap.size ≤ g from fun g e => (HI.out.vl g e).1)
          cases hv9
          obtain ⟨ss, hss⟩ : ∃ ss, ss = sortI zs := ⟨_, rfl⟩
          rw [← hss] at HR2 HNZ HF
          obtain ⟨i1, hi1, hy0, hy1, hy2⟩ := info_parts info40
          have HI1 := Lib.hid hi1
          clear hr2 ht2 hnz HI hss hi1
          obtain ⟨wq, rfl⟩ : ∃ wq : World, wq = wr := ⟨_, rfl⟩
          go_wp2_with (first | (refine wpList_make_row rfl 33 _ _ rfl 40 i1 (.agg (ccell zeroC).toArray) 257 264 Try.underlying33 HI1.out hy0 hy1 hy2 n9 rfl rfl (by omega) (by omega) ?_; intro w3 hrow3 hg3))
          have HF0 := Lib.hid (show FInv f D bm nn w (.slice a9 n9 c9) ss 0 (.slice (some ⟨w2.heap.size, 0, none⟩) 0 n9) w3 from { map := ownsMap_touch HO2.out (Touch.of_below (S := []) hg3) (by simp), zrow := HR2.out.grow hg3, row := hrow3, grow := Grow.trans HG2.out hg3, vl := fun g e => (by have h0 := HG2.out.size; have h1 := (HR2.out.lt (g := g)); have h2 := HO2.out.lt; simp only [Value.ownBlock, Option.some.injEq] at e; subst e; refine ⟨h0, by omega, fun hm => ?_⟩; have := HR2.out.lt hm; omega) })
          clear hrow3 hg3
          go_loopw [11, 69] (fun t11 t69 wr => ∃ k : Nat, (∃ a11 n11 c11, t11 = .slice a11 n11 c11) ∧ t69 = .int .i64 (k : Int) ∧ k ≤ n9 ∧ Hid (FInv f D bm nn w (.slice a9 n9 c9) ss k t11 wr)) (fun _ t69 _ => n9 - (intOf t69).toNat)
          case atStart => exact ⟨0, ⟨_, _, _, rfl⟩, by go_num, by omega, HF0⟩
          case round =>
            obtain ⟨k, ⟨a11, n11, c11, rfl⟩, rfl, hkn, HFk⟩ := hrel
            by_cases hk : k < n9
            · obtain ⟨z, hzk⟩ : ∃ z, ss[k]? = some z := ⟨ss[k]'(by rw [← HNZ.out]; exact hk), by simp⟩
              have hzr := HFk.out.zrow
              obtain ⟨gz, c9', hvg, _⟩ := hzr.open_ (by rw [← HNZ.out]; omega)
              rw [← HNZ.out] at hvg
              cases hvg
              have hcell := hzr.cell hzk
              have HZK := Lib.hid hzk
              have hzs : HasM f z = true := (HF.out.mem z).1 (List.mem_of_getElem? hzk)
              obtain ⟨c, hc⟩ := Option.isSome_iff_exists.1 hzs
              have hco := HOW.out z c hc
              have hgd : (f z).getD zeroC = c := by rw [hc]; rfl
              have HC := Lib.hid hgd
              have HCO := Lib.hid hco.2.1
              have HIO := Lib.hid (show IntOk z by rw [← hco.1]; exact hco.2.2)
              have HMk := Lib.hid HFk.out.map
              have HRk := Lib.hid HFk.out.row
              have HLk := Lib.hid (show (outL f (ss.take k)).length + 1 ≤ 1000000 by unfold outL; rw [List.length_map, List.length_take]; omega)
              clear hzk hzr hzs hc hco hgd
              go_wp2_with (first | (at_lookup; refine wpList_look_copy rfl _ _ rfl bm nn D f rfl HMk.out HGM.out z rfl HIO.out c HC.out ?_) | (refine wpList_buildSlice rfl 33 1 _ rfl (by simp only [List.map_toArray, List.map_cons, List.map_nil]; exact buildSlice_copy c HCO.out _) ?_) | (at_builtin; refine wpList_append_row rfl _ _ 33 rfl 40 i1 (.agg (ccell zeroC).toArray) 257 264 Try.underlying33 HI1.out hy0 hy1 hy2 (by show (ccell zeroC).toArray.size = 257; rw [List.size_toArray, ccell_length zeroC_ok]) (by omega) (.slice a11 n11 c11) ((outL f (ss.take k)).map ccell) rfl (Row.kept HRk.out (Touch.alloc [] _ _) (by simp)) _ 1 (ccell c) rfl (ccell_length HCO.out) (new_cells _ _ _) (ccell_one c) (by rw [List.length_map]; exact HLk.out) (by omega) ?_; intro v' wa happ htch))
              have HF2 := Lib.hid (HFk.out.app HZK.out (Grow.alloc _ _) (by rw [HC.out]; exact happ) htch)
              clear happ htch
              go_roundw
              case rel =>
                obtain ⟨aa, cc, hh⟩ := Row.len HF2.out.row
                exact ⟨k + 1, ⟨aa, _, cc, hh⟩, by go_num, by omega, HF2⟩
              case measure => simp [intOf]; omega
            · obtain rfl : k = n9 := by omega
              have HR := Lib.hid (show CRow wr (.slice a11 n11 c11) (outL f ss) by have := HFk.out.row; rwa [HNZ.out, List.take_length] at this)
              have HG := Lib.hid HFk.out.grow
              have HV := Lib.hid (fun g e => (HFk.out.vl g e).1)
              go_wp2
              go_ret
              rw [← HFE.out]
              exact ⟨_, ss, rfl, HF.out, HR.out, HG.out, HV.out⟩
        · intro xb yy l0 y1 y2 w2 cnt1 hkey hlk hv hat hrg1 hlt hg1 hs1 hen
          generalize yy.c = y at *
          clear yy
          obtain ⟨xi, hxok, hxe, hl0⟩ := keyOf_ik_inv hkey
          cases hxe
          subst hl0
          obtain ⟨y', hyl, hye, hy1⟩ := EK.elem_inv hv
          obtain rfl : y = y' := copyK.inj _ _ hye
          have HFX := Lib.hid (show HasM f xb = true by unfold HasM; rw [HGM.out.of_at (fun z => by rw [hat z]; exact (Prod.ext_iff.1 hy1).1)]; rfl)
          have HR1 := Lib.hid hrg1
          have HG1' := Lib.hid hg1
          have HLTc := Lib.hid hlt
          have HI1 := Lib.hid (HI.out.is.more HFX.out hlk)
          have HRW2 := Lib.hid (show IRow w2 (.slice a9 n9 c9) zs from Row.kept HI.out.row (Touch.grown (S := [w1.heap.size]) hg1 (fun k e => by cases e; simp)) (fun g e hm => (HI.out.vl g e).2.2 (List.mem_singleton.1 hm)))
          have HLz := Lib.hid (show zs.length + 1 ≤ 1000000 by have := HI.out.len; have := HNN.out; omega)
          clear hkey hlk hv hat hrg1 hg1 hlt hs1 hyl hye hy1 hxok
          go_wp2_with (first | (at_builtin; refine wpList_append_row rfl _ _ 53 rfl 3 i0 (.int .i64 0) 1 8 Try.underlying53 HI0.out hz0 hz1 hz2 rfl (by omega) (.slice a9 n9 c9) (zs.map icell) rfl (Row.kept HRW2.out (Touch.alloc [] _ _) (by simp)) _ 1 (icell xb) rfl rfl (new_cells _ _ _) (fun u hu => by rw [List.mem_singleton.1 hu]; rfl) (by rw [List.length_map]; exact HLz.out) (by omega) ?_; intro v' wa happ htch))
          have HI2 := Lib.hid (HI.out.app HR1.out HG1'.out HLTc.out HI1.out (Grow.alloc _ _) happ htch)
          clear happ htch
          go_roundw
          case rel =>
            obtain ⟨aa, cc, hh⟩ := HI2.out.row.len
            exact ⟨_, _, _, ⟨aa, _, cc, hh⟩, HI2⟩
          case measure => rw [HI2.out.rng.left_eq, HI.out.rng.left_eq]; exact HLTc.out
#print axioms overlay_ok
end Go.Proofs.Ytlhhbkpocpnebaa
