/- pack.withCopies: the walk. -/
import Derived.Test.YtieknecbheeekaaDoorP2
set_option linter.unusedVariables false
set_option linter.unusedSimpArgs false
namespace Go.Proofs.YtieknecbheeekaaDoor
open Go.RowKit Go.Maps

theorem info104 : (Tryd.prog.info? 104).map (fun i => (i.zero, i.size, i.bytes)) = some (some (.agg #[.int .u32 0, .bool false]), 2, 8) := by kernel_rfl
theorem ccell_one (c : Cp) : ∀ v ∈ ccell c, v.oneCell' = true := by
  intro v hv
  rcases List.mem_cons.1 hv with rfl | h
  · rfl
  · exact bc_one _ v h
theorem size104 : (Tryd.prog.info? 104).map (·.size) = some 2 := by kernel_rfl
/-- what goes on behind the blocks: a descriptor and the copies -/
def ManyPost (W : World) (vb : Value) (bl : List Blk) (cs : List Cp) (e : Ending) (w' : World) : Prop := ∃ (v : Value) (X : Blk) (xs : List Blk) (er : Int), e = .returned (.tuple #[v, .int .i64 er]) ∧ Put W w' vb v ((bl ++ [X]) ++ xs) ∧ xs.length = cs.length ∧ (cs.length = 1 → er = 0) ∧ (∀ c, cs = [c] → Plain1 c.2 → xs = [c.2])
structure CoInv (W : World) (cs : List Cp) (n U D i : Nat) (tl : List Tg) (xs : List Blk) (wr : World) : Prop where
  tb : ∀ t ∈ tl, t.b < 4294967296
  tr : Row wr 104 2 (.slice (some ⟨U, 0, none⟩) n n) (tl.map tgc)
  xr : BRow wr (.slice (some ⟨D, 0, none⟩) n n) xs
  tn : tl.length = n
  xn : xs.length = n
  one : 1 ≤ i → ∀ c, cs = [c] → Plain1 c.2 → xs[0]? = some c.2
  grow : Grow W wr
theorem CoInv.later {W : World} {cs : List Cp} {n U D i : Nat} {tl : List Tg} {xs : List Blk} {wr w' : World} (h : CoInv W cs n U D i tl xs wr) (hg : Grow wr w') : CoInv W cs n U D i tl xs w' :=
  ⟨h.tb, Row.kept h.tr (Touch.of_below (S := []) hg) (by simp), h.xr.grow hg, h.tn, h.xn, h.one, Grow.trans h.grow hg⟩
theorem CoInv.tag {W : World} {cs : List Cp} {n U D i : Nat} {tl : List Tg} {xs : List Blk} {wr : World} (h : CoInv W cs n U D i tl xs wr) (hU : W.heap.size ≤ U) (hUD : U ≠ D) (hi : i < n) (t : Tg) (ht : t.b < 4294967296) : CoInv W cs n U D i (tl.set i t) xs (wr.setCells U (i * 2) (tgc t)) where
  tb := fun y hy => by
    rcases List.mem_or_eq_of_mem_set hy with h1 | h1
    · exact h.tb y h1
    · rw [h1]; exact ht
  tr := by rw [List.map_set]; exact Row.store h.tr (c := tgc t) rfl (by rw [List.length_map, h.tn]; exact hi)
  xr := Row.kept h.xr (touch_setCells (S := [U]) (by simp) _ _ _) (fun q hq hm => by cases hq; exact hUD (List.mem_singleton.1 hm).symm)
  tn := by rw [List.length_set]; exact h.tn
  xn := h.xn
  one := h.one
  grow := Below.trans h.grow ((touch_setCells (S := [U]) (by simp) _ _ _).below h.grow.size (fun q hq => by rw [List.mem_singleton.1 hq]; exact hU))
theorem CoInv.blk {W : World} {cs : List Cp} {n U D i : Nat} {tl : List Tg} {xs : List Blk} {wr : World} (h : CoInv W cs n U D i tl xs wr) (hD : W.heap.size ≤ D) (hUD : U ≠ D) (hi : i < n) (x : Blk) (hx : x.length = 256) (hx1 : ∀ c, cs = [c] → Plain1 c.2 → x = c.2) (hn : n = cs.length) : CoInv W cs n U D (i + 1) tl (xs.set i x) (wr.setCells D (i * 256) (bc x)) where
  tb := h.tb
  tr := Row.kept h.tr (touch_setCells (S := [D]) (by simp) _ _ _) (fun q hq hm => by cases hq; exact hUD (List.mem_singleton.1 hm))
  xr := BRow.stored h.xr hx (by rw [h.xn]; exact hi)
  tn := h.tn
  xn := by rw [List.length_set]; exact h.xn
  one := fun _ c hc hp => by
    have : i = 0 := by rw [hc] at hn; simp at hn; omega
    subst this
    rw [List.getElem?_set_self (by rw [h.xn]; exact hi), hx1 c hc hp]
  grow := Below.trans h.grow ((touch_setCells (S := [D]) (by simp) _ _ _).below h.grow.size (fun q hq => by rw [List.mem_singleton.1 hq]; exact hD))
set_option maxRecDepth 100000 in
set_option maxHeartbeats 8000000 in
theorem withCopies_ok {W : World} {vb v : Value} {bl : List Blk} {cs : List Cp} (hb : BRow W vb bl) (hbl : bl.length ≤ 1000) (hs : CSee W v cs) (s : Nat) (h1 : 1 ≤ s) (h2 : s ≤ 2147483648) (hn1 : 1 ≤ cs.length) (hn2 : cs.length ≤ 30) :
    Calls Tryd.prog 26 #[vb, .int .u32 (s : Int), v] W (ManyPost W vb bl cs) := by
  have HB := Lib.hid hb
  have HS := Lib.hid hs
  obtain ⟨a, cap, hv⟩ := hs.len
  obtain ⟨n, hn⟩ : ∃ n, n = cs.length := ⟨_, rfl⟩
  rw [← hn] at hv hn1 hn2
  subst hv
  have HN := Lib.hid hn
  obtain ⟨it, hit, hu0, hu1, hu2⟩ := info_parts info104
  have HIT := Lib.hid hit
  obtain ⟨ib, hib, hx0, hx1, hx2⟩ := info_parts info32b
  have HIB := Lib.hid hib
  have hz := zero32
  have hz7 := zero40
  have HZ := Lib.hid zero_size
  have HZ7 := Lib.hid (show (ccell zeroC).toArray.size = 257 by rw [List.size_toArray, ccell_length zeroC_ok])
  have HZB := Lib.hid bc_one
  obtain ⟨Z, hZ⟩ : ∃ Z, Z = (bc zeroB).toArray := ⟨_, rfl⟩
  rw [← hZ] at hz HZ hx0
  obtain ⟨Z7, hZ7⟩ : ∃ Z7, Z7 = (ccell zeroC).toArray := ⟨_, rfl⟩
  rw [← hZ7] at hz7 HZ7
  have HX0 := Lib.hid hx0
  have HZE := Lib.hid hZ
  obtain ⟨ab, cb, hvb⟩ := hb.len
  subst hvb
  obtain ⟨nb, hnb⟩ : ∃ nb, nb = bl.length := ⟨_, rfl⟩
  rw [← hnb] at HB ⊢
  have HNB := Lib.hid hnb
  have HBL := Lib.hid hbl
  clear hb hs hn hit hib hZ hZ7 hnb hx0 hbl
  go_enter Tryd.func26, Tryd.ntmps26
  go_upto_region 2 with (refine wpList_make_full rfl 100 _ _ rfl 104 it (.agg #[.int .u32 0, .bool false]) [.int .u32 0, .bool false] rfl 2 8 Tryd.underlying100 HIT.out hu0 hu1 hu2 rfl (by omega) n rfl rfl (by omega) (by omega) ?_; intro w1 hr1 hg1)
  have HR1 := Lib.hid (show Row w1 104 2 (.slice (some ⟨W.heap.size, 0, none⟩) n n) ((List.replicate n (⟨0, false⟩ : Tg)).map tgc) by rw [List.map_replicate]; exact hr1)
  have HG1 := Lib.hid hg1
  clear hr1 hg1
  obtain ⟨U, hU⟩ : ∃ U, U = W.heap.size := ⟨_, rfl⟩
  rw [← hU] at HR1 ⊢
  have HU := Lib.hid hU
  clear hU
  go_upto_region 3 with (refine wpList_make_full rfl 57 _ _ rfl 34 ib (.agg Z) (bc zeroB) (by rw [HZE.out]; rfl) 256 256 Tryd.underlying57 HIB.out HX0.out hx1 hx2 (by rw [bc_length]; exact zeroB_ok) (by omega) n rfl rfl (by omega) (by omega) ?_; intro w2 hr2 hg2)
  have HR2 := Lib.hid (show BRow w2 (.slice (some ⟨w1.heap.size, 0, none⟩) n n) (List.replicate n zeroB) by unfold BRow; rw [List.map_replicate]; exact hr2)
  have HG2 := Lib.hid hg2
  have HUL := Lib.hid (Row.lt HR1.out (g := U) rfl)
  obtain ⟨D, hD⟩ : ∃ D, D = w1.heap.size := ⟨_, rfl⟩
  rw [← hD] at HR2 HUL ⊢
  have HD := Lib.hid hD
  have HDW := Lib.hid (show W.heap.size ≤ D by rw [hD]; exact HG1.out.size)
  have HUD := Lib.hid (show U ≠ D by have := HUL.out; omega)
  have HUW := Lib.hid (show W.heap.size ≤ U by rw [HU.out]; exact Nat.le_refl _)
  have HK0 := Lib.hid (show CoInv W cs n U D 0 (List.replicate n ⟨0, false⟩) (List.replicate n zeroB) w2 from ⟨fun t ht => by rw [(List.mem_replicate.1 ht).2]; decide, Row.kept HR1.out (Touch.of_below (S := []) HG2.out) (by simp), HR2.out, List.length_replicate, List.length_replicate, fun h => by omega, Grow.trans HG1.out HG2.out⟩)
  clear hr2 hg2 hD
  go_wp2
  go_loopw [24] (fun t24 wr => ∃ (i : Nat) (tl : List Tg) (xs : List Blk), i ≤ n ∧ t24 = .int .i64 (i : Int) ∧ Hid (CoInv W cs n U D i tl xs wr)) (fun t24 _ => n - (intOf t24).toNat)
  case atStart => exact ⟨0, _, _, by omega, by go_num, HK0⟩
  case round =>
    clear HK0 HR1 HR2 HG1 HG2
    obtain ⟨i, tl, xs, hin, rfl, HK⟩ := hrel
    by_cases hi : i < n
    · obtain ⟨c, hci⟩ : ∃ c, cs[i]? = some c := ⟨cs[i]'(by rw [← HN.out]; exact hi), by simp⟩
      obtain ⟨gc, oc, rfl, hgc, hrc, _, hcok⟩ := (HS.out.grow HK.out.grow).at_ hci
      have HRC := Lib.hid hrc
      have HC2 := Lib.hid hcok.2
      have HSZ7 := Lib.hid (csizeL hcok.2)
      have HSY := Lib.hid (csize hcok.2)
      have HO1 := Lib.hid (all_oneCell_toArray (ccell_one c))
      obtain ⟨C, hC⟩ : ∃ C, C = (ccell c).toArray := ⟨_, rfl⟩
      have HCE := Lib.hid hC
      have HZS := Lib.hid (show Z7.size = C.size by rw [HZ7.out, hC, List.size_toArray, ccell_length hcok.2])
      rw [← hC] at HSY HO1
      have HCI := Lib.hid (show ∀ x : Blk, (Plain1 c.2 → x = c.2) → ∀ d, cs = [d] → Plain1 d.2 → x = d.2 from fun x hx d hd hp => by
        rw [hd] at hci
        have : i = 0 := by have := (List.getElem?_eq_some_iff.1 hci).1; simpa using this
        subst this
        simp only [List.getElem?_cons_zero, Option.some.injEq] at hci
        subst hci
        exact hx hp)
      have b0 : (0 : Int) ≤ (i : Int) := by omega
      have b1 : (i : Int) < (n : Int) := by omega
      clear hrc hci hC hcok hgc
      go_upto_region 6 with (first | (refine wpList_load_mid rfl 72 _ rfl gc (oc + i * 257) rfl (ccell c) _ HRC.out Tryd.underlying72 rfl HSZ7.out ?_; rw [← HCE.out]) | (refine wpList_store_row rfl 72 _ _ rfl wr.heap.size C rfl rfl 72 Z7 (heap_alloc_last _ _) HSY.out HZS.out HO1.out ?_))
      have HB3 := Lib.hid (show ((wr.alloc (.cells Z7 72)).setRow wr.heap.size C).heap[wr.heap.size]? = some (.cells (ccell c).toArray 72) by rw [← HCE.out]; exact setRow_heap _ _ _ _ _ _ (heap_alloc_last _ _))
      have HK3 := Lib.hid (HK.out.later (show Grow wr ((wr.alloc (.cells Z7 72)).setRow wr.heap.size C) from below_setRow (Grow.alloc _ _) (Nat.le_refl _) _))
      generalize (wr.alloc (.cells Z7 72)).setRow wr.heap.size C = w3 at *
      obtain ⟨CB, hCB⟩ : ∃ CB, CB = wr.heap.size := ⟨_, rfl⟩
      have HCBl := Lib.hid (show CB ≠ U ∧ CB ≠ D from ⟨fun e => by have := Row.lt HK.out.tr (g := U) rfl; omega, fun e => by have := Row.lt HK.out.xr (g := D) rfl; omega⟩)
      rw [← hCB] at HB3 ⊢
      clear hCB HRC HSY HO1 HZS
      have HRX := Lib.hid (show w3.rangeAt CB 1 (bc c.2) from fun j u hj => by
        rw [Nat.add_comm 1 j, cell_at HB3.out]
        unfold ccell
        rw [List.getElem?_toArray, List.getElem?_cons_succ]
        exact hj)
      have HCL := Lib.hid (Array.getElem?_eq_some_iff.1 HB3.out).1
      go_wp2_with (refine wpList_load_mid rfl 34 _ rfl CB 1 rfl (bc c.2) _ HRX.out Tryd.underlying34 rfl (bsizeL HC2.out) ?_)
      refine (escape_ok HC2.out w3).mono ?_
      intro e w4 hp
      obtain ⟨x', eb, rfl, hxl, hg4, hx1⟩ := hp
      have HXl := Lib.hid hxl
      have HX1 := Lib.hid (HCI.out x' hx1)
      have HK4 := Lib.hid (HK3.out.later hg4)
      have HB4 := Lib.hid ((hg4.block _ HCL.out).trans HB3.out)
      obtain ⟨Y, hY⟩ : ∃ Y, Y = (bc x').toArray := ⟨_, rfl⟩
      have HY := Lib.hid hY
      have HYs := Lib.hid (show Y.size = 256 by rw [hY, List.size_toArray, bc_length, hxl])
      have HY1 := Lib.hid (show Y.all (·.oneCell') = true by rw [hY]; exact all_oneCell_toArray (bc_one _))
      rw [← hY]
      clear hY hxl hg4 hx1 HK3 HB3 HRX
      go_upto_region 7 with (refine wpList_store_row rfl 34 _ _ rfl w4.heap.size Y rfl rfl 34 Z (heap_alloc_last _ _) (by rw [HYs.out]; exact size32) (by rw [HYs.out]; exact HZ.out) HY1.out ?_)
      have HE5 := Lib.hid (show ((w4.alloc (.cells Z 34)).setRow w4.heap.size Y).heap[w4.heap.size]? = some (.cells Y 34) from setRow_heap _ _ _ _ _ _ (heap_alloc_last _ _))
      have hg45 : Grow w4 ((w4.alloc (.cells Z 34)).setRow w4.heap.size Y) := below_setRow (Grow.alloc _ _) (Nat.le_refl _) _
      have HK5 := Lib.hid (HK4.out.later hg45)
      have HB5 := Lib.hid ((hg45.block _ (Array.getElem?_eq_some_iff.1 HB4.out).1).trans HB4.out)
      clear hg45
      generalize (w4.alloc (.cells Z 34)).setRow w4.heap.size Y = w5 at *
      obtain ⟨EB, hEB⟩ : ∃ EB, EB = w4.heap.size := ⟨_, rfl⟩
      have HEBl := Lib.hid (show EB ≠ U ∧ EB ≠ D from ⟨fun e => by have := Row.lt HK4.out.tr (g := U) rfl; omega, fun e => by have := Row.lt HK4.out.xr (g := D) rfl; omega⟩)
      rw [← hEB] at HE5 ⊢
      have k0 : w5.cell? ⟨CB, 0, none⟩ = some (.int .i64 c.1) := cell_at HB5.out 0
      have hu := n32_eq c.1
      have hth : w5.there U (i * 2) 2 := Row.there HK5.out.tr (i := i) (by rw [List.length_map, HK5.out.tn]; exact hi)
      obtain ⟨y0, m0⟩ := Option.isSome_iff_exists.1 (hth 0 (by omega)).1
      obtain ⟨y1, m1⟩ := Option.isSome_iff_exists.1 (hth 1 (by omega)).1
      have n0 := (hth 0 (by omega)).2
      have n1 := (hth 1 (by omega)).2
      rw [Nat.add_zero] at m0 n0
      clear hth
      have HK6 := Lib.hid (HK5.out.tag HUW.out HUD.out hi ⟨n32 c.1, eb⟩ (n32_lt _))
      have HE6 := Lib.hid (show (w5.setCells U (i * 2) [.int .u32 (n32 c.1 : Int), .bool eb]).heap[EB]? = some (.cells Y 34) from ((touch_setCells (S := [U]) (by simp) _ _ _).block _ (Array.getElem?_eq_some_iff.1 HE5.out).1 (by simpa using HEBl.out.1)).trans HE5.out)
      clear hEB HK4 HB4
      have HE6 := Lib.hid (show ((w5.setCell ⟨U, i * 2, none⟩ (.int .u32 (n32 c.1 : Int))).setCell ⟨U, i * 2 + 1, none⟩ (.bool eb)).heap[EB]? = some (.cells Y 34) from HE6.out)
      have HK6 := Lib.hid (show CoInv W cs n U D i (tl.set i ⟨n32 c.1, eb⟩) xs ((w5.setCell ⟨U, i * 2, none⟩ (.int .u32 (n32 c.1 : Int))).setCell ⟨U, i * 2 + 1, none⟩ (.bool eb)) from HK6.out)
      go_upto_region 8 with fail
      clear m0 m1 n0 n1
      generalize (w5.setCell ⟨U, i * 2, none⟩ (.int .u32 (n32 c.1 : Int))).setCell ⟨U, i * 2 + 1, none⟩ (.bool eb) = w6 at *
      have HTH6 := Lib.hid (show w6.there D (i * 256) (bc x').toArray.size by
        rw [show (bc x').toArray.size = 256 by rw [List.size_toArray, bc_length, HXl.out]]
        exact Row.there HK6.out.xr (by rw [List.length_map, HK6.out.xn]; exact hi))
      rw [← HY.out] at HTH6
      have HK7 := Lib.hid (HK6.out.blk HDW.out HUD.out hi x' HXl.out HX1.out HN.out)
      have HYL := Lib.hid (show Y.toList = bc x' by rw [HY.out])
      clear k0 hu HK5 HB5 HE5
      go_wp2_with (first | (refine wpList_load_row rfl 34 _ rfl EB rfl 34 Y (0, 0) _ HE6.out Tryd.underlying34 rfl (by rw [HYs.out]; exact size32) ?_) | (refine wpList_store_mid rfl 34 _ _ rfl D (i * 256) Y rfl rfl HTH6.out (by rw [HYs.out]; exact size32) HY1.out ?_))
      go_roundw
      case rel => exact ⟨i + 1, _, _, by omega, by go_num, by rw [HYL.out]; exact HK7⟩
      case measure => simp [intOf]; omega
    · obtain rfl : i = n := by omega
      rename World => w3
      have HDS := Lib.hid (desc_ok HK.out.tr.see HK.out.tb s h1 h2 (by rw [HK.out.tn]; exact hn1) (by rw [HK.out.tn]; exact hn2))
      rw [HK.out.tn] at HDS
      have HG3 := Lib.hid HK.out.grow
      go_wp2_with fail
      refine HDS.out.mono ?_
      intro e w4 hp
      obtain ⟨X, er, rfl, hX, hg4, he⟩ := hp
      have HXl := Lib.hid hX
      have HE := Lib.hid he
      have HK4 := Lib.hid (HK.out.later hg4)
      obtain ⟨Y, hY⟩ : ∃ Y, Y = (bc X).toArray := ⟨_, rfl⟩
      have HY := Lib.hid hY
      have HYs := Lib.hid (show Y.size = 256 by rw [hY, List.size_toArray, bc_length, hX])
      have HY1 := Lib.hid (show Y.all (·.oneCell') = true by rw [hY]; exact all_oneCell_toArray (bc_one _))
      rw [← hY]
      clear hY hg4 he hX HK HG3
      go_upto_region 11 with (refine wpList_store_row rfl 34 _ _ rfl w4.heap.size Y rfl rfl 34 Z (heap_alloc_last _ _) (by rw [HYs.out]; exact size32) (by rw [HYs.out]; exact HZ.out) HY1.out ?_)
      have HB5 := Lib.hid (show ((w4.alloc (.cells Z 34)).setRow w4.heap.size Y).heap[w4.heap.size]? = some (.cells Y 34) from setRow_heap _ _ _ _ _ _ (heap_alloc_last _ _))
      have HK5 := Lib.hid (HK4.out.later (show Grow w4 ((w4.alloc (.cells Z 34)).setRow w4.heap.size Y) from below_setRow (Grow.alloc _ _) (Nat.le_refl _) _))
      generalize (w4.alloc (.cells Z 34)).setRow w4.heap.size Y = w5 at *
      have HP5 := Lib.hid (Put.start HB.out (Grow.trans HK5.out.grow (Grow.alloc w5 (.cells (bc X).toArray 34))))
      have HBS := Lib.hid (buildSlice_blk X HXl.out)
      have HBSY := Lib.hid (show ∀ w : World, (Instr.buildSlice 57 1 #[(0, .agg Y)]).run Tryd.prog w = .ok (.slice (some ⟨w.heap.size, 0, none⟩) 1 1) (w.alloc (.cells (bc X).toArray 34)) from fun w => by rw [HY.out]; exact HBS.out w)
      have HDN := Lib.hid (show ∀ q, (Value.slice ab nb cb).ownBlock = some q → q ≠ D from fun q hq e => by have := Row.lt HB.out hq; have := HDW.out; omega)
      have HK6 := Lib.hid (HK5.out.later (Grow.alloc w5 (.cells (bc X).toArray 34)))
      go_wp2_with (first | (refine wpList_load_row rfl 34 _ rfl w4.heap.size rfl 34 Y (0, 0) _ HB5.out Tryd.underlying34 rfl (by rw [HYs.out]; exact size32) ?_) | (refine wpList_buildSlice rfl 57 1 _ rfl (by simp only [List.map_toArray, List.map_cons, List.map_nil]; exact HBSY.out _) ?_) | (at_builtin; (first
        | (refine wpList_append_row rfl _ _ 57 rfl 34 ib (.agg Z) 256 256 Tryd.underlying57 HIB.out HX0.out hx1 hx2 HZ.out (by omega) (.slice ab nb cb) (bl.map bc) rfl HP5.out.row _ 1 (bc X) rfl (by rw [bc_length]; exact HXl.out) (new_cells _ _ _) (bc_one X) (by rw [List.length_map]; have := HBL.out; omega) (by omega) ?_; intro v' wa happ htch; have HP6 := Lib.hid (HP5.out.app1 happ htch); have HX6 := Lib.hid (show BRow wa (.slice (some ⟨D, 0, none⟩) i i) xs from Row.kept HK6.out.xr htch (fun q hq hm => by cases hq; exact HDN.out _ (ownL_mem.1 hm) rfl)); clear happ htch)
        | (go_loud (refine wpList_append_rows rfl _ _ 57 rfl 34 ib (.agg Z) 256 256 Tryd.underlying57 HIB.out HX0.out hx1 hx2 HZ.out (by omega) v' (.slice (some ⟨D, 0, none⟩) i i) ((bl ++ [X]).map bc) (xs.map bc) rfl HP6.out.row rfl (Row.src HX6.out (fun c hc u hu => by obtain ⟨y, _, rfl⟩ := List.mem_map.1 hc; exact bc_one y u hu)) (by rw [List.length_map, List.length_map, List.length_append, HK6.out.xn]; have := HBL.out; simp; omega) (by omega) ?_); intro v2 wb happ2 htch2))))
      have HF := Lib.hid (HP6.out.app happ2 htch2)
      clear happ2 htch2
      go_ret2
      refine ⟨v2, X, xs, er, rfl, HF.out, by rw [HK6.out.xn]; exact HN.out, fun h => HE.out (by rw [HN.out]; exact h), fun c hc hp => ?_⟩
      have h0 := HK6.out.one (by omega) c hc hp
      have hl := HK6.out.xn
      have hn' := HN.out
      rw [hc] at hn'
      simp at hn'
      cases xs with
      | nil => cases h0
      | cons y ys =>
        simp only [List.getElem?_cons_zero, Option.some.injEq] at h0
        subst h0
        have : ys = [] := List.eq_nil_of_length_eq_zero (by simp at hl; omega)
        rw [this]
#print axioms withCopies_ok
end Go.Proofs.YtieknecbheeekaaDoor
