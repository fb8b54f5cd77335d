/- The law's awake: the chapter's examples, walked. -/
import Derived.Test.YtlhhbkpocpnebaaP16
set_option linter.unusedVariables false
set_option linter.unusedSimpArgs false
namespace Go.Proofs.Ytlhhbkpocpnebaa
open Go.RowKit Go.Maps

/-- the blocks of the examples, in memory -/
structure Two (PA PB : Nat) (w : World) : Prop where
  a : w.heap[PA]? = some (.cells (bc aB).toArray 29)
  b : w.heap[PB]? = some (.cells (bc bB).toArray 29)
theorem Two.grow {PA PB : Nat} {w w' : World} (h : Two PA PB w) (hg : Grow w w') : Two PA PB w' :=
  ⟨(hg.block _ (Array.getElem?_eq_some_iff.1 h.a).1).trans h.a, (hg.block _ (Array.getElem?_eq_some_iff.1 h.b).1).trans h.b⟩
theorem ok5 (x : Blk) (h : x.length = 256) : CpOk (5, x) := ⟨by unfold IntOk; dsimp only; omega, h⟩
theorem ok6 (x : Blk) (h : x.length = 256) : CpOk (6, x) := ⟨by unfold IntOk; dsimp only; omega, h⟩
theorem iok5 : IntOk 5 := by unfold IntOk; omega
theorem TAt.c {w : World} {v : Value} {c : Cp} (h : CRow w v [c]) (hc : CpOk c) : TAt w ⟨tC c, v, .slice none 0 0⟩ := ⟨h, rowNil _ _ _, tC_ok hc⟩
theorem TAt.r {w : World} {v : Value} {z : Int} (h : IRow w v [z]) (hz : IntOk z) : TAt w ⟨tR z, .slice none 0 0, v⟩ := ⟨rowNil _ _ _, h, tR_ok hz⟩
theorem TAt.b {w : World} {v v' : Value} {c : Cp} {z : Int} (h : CRow w v [c]) (h' : IRow w v' [z]) (hc : CpOk c) (hz : IntOk z) : TAt w ⟨⟨0, [c], [z]⟩, v, v'⟩ := ⟨h, h', ⟨fun d hd => (by rw [List.mem_singleton.1 hd]; exact hc), fun r hr => (by rw [List.mem_singleton.1 hr]; exact hz), by simp⟩⟩
theorem bB_one : CpOk (5, bB) ∧ CpOk (6, bB) ∧ CpOk (5, aB) := ⟨ok5 _ bB_len, ok6 _ bB_len, ok5 _ aB_len⟩
theorem did_len (x : Blk) : (didD (newD 58) x).safe.length = 58 := by
  unfold didD
  rw [(DS.flushed_len _).1, (DS.wrote_len _ _ _).1, (DS.flushed_len _).1]
  show (List.replicate 58 zeroB).length = 58
  exact List.length_replicate
theorem did_acts (x : Blk) : (didD (newD 58) x).acts = 3 := by
  unfold didD
  rw [(DS.flushed_len _).2.2.2.1, (DS.wrote_len _ _ _).2.2.1, (DS.flushed_len _).2.2.2.1]
  rfl
theorem did_last (x : Blk) : (didD (newD 58) x).last = (List.replicate 58 zeroB).set 2 x := rfl
theorem did_read {w : World} {B : Nat} {S : List Nat} {x : Blk} (h : IsDisk w B S (didD (newD 58) x)) (hx : x.length = 256) : Calls Try.prog 45 #[.pointer (some ⟨B, 0, none⟩), .int .i64 2] w fun e w' => e = .returned (.tuple #[.agg (bc x).toArray, .int .i64 0]) ∧ Grow w w' := by
  have hl : 2 < (didD (newD 58) x).last.length := by rw [did_last, List.length_set, List.length_replicate]; omega
  have h1 := read_ok h 2 hl rfl
  have he : (didD (newD 58) x).last[2]'hl = x := by
    have : (didD (newD 58) x).last[2]? = some x := by rw [did_last, List.getElem?_set, if_pos rfl, if_pos (by rw [List.length_replicate]; omega)]
    exact (List.getElem?_eq_some_iff.1 this).2
  rw [he] at h1
  exact h1
theorem head_bytes : (beginB 4 8 0)[4]? = some 4 ∧ (beginB 4 8 0)[8]? = some 8 := by decide +kernel
set_option maxRecDepth 100000 in
set_option maxHeartbeats 16000000 in
theorem awake_ok (w : World) : Calls Try.prog 21 #[] w fun e w' => e = .returned (.bool true) ∧ Grow w w' := by
  have hz := zero32
  have HZS := Lib.hid zero_size
  have HZ0 := Lib.hid (zero_get 0 (by omega))
  have HAE := Lib.hid (bc_set zeroB 0 1)
  have HBE := Lib.hid (bc_set zeroB 0 2)
  obtain ⟨Z, hZ⟩ : ∃ Z, Z = (bc zeroB).toArray := ⟨_, rfl⟩
  rw [← hZ] at hz HZS HZ0 HAE HBE
  clear hZ
  have HAL := Lib.hid aB_len
  have HBL := Lib.hid bB_len
  have HH0 := Lib.hid (heap_one w (.cells Z 29) (.cells Z 29))
  have hq0 : ((w.alloc (.cells Z 29)).alloc (.cells Z 29)).cell? ⟨w.heap.size, 0, none⟩ = some (.int .u8 0) := (cell_at HH0.out 0).trans HZ0.out
  have hf0 : ((w.alloc (.cells Z 29)).alloc (.cells Z 29)).frozen? ⟨w.heap.size, 0, none⟩ = false := frozen_at HH0.out 0
  have HH1 := Lib.hid (heap_two w (.cells (Z.setIfInBounds 0 (.int .u8 1)) 29) (.cells Z 29))
  have hq1 : ((w.alloc (.cells (Z.setIfInBounds 0 (.int .u8 1)) 29)).alloc (.cells Z 29)).cell? ⟨w.heap.size + 1, 0, none⟩ = some (.int .u8 0) := (cell_at HH1.out 0).trans HZ0.out
  have hf1 : ((w.alloc (.cells (Z.setIfInBounds 0 (.int .u8 1)) 29)).alloc (.cells Z 29)).frozen? ⟨w.heap.size + 1, 0, none⟩ = false := frozen_at HH1.out 0
  have HG0 := Lib.hid (Grow.trans (Grow.alloc w (.cells (bc aB).toArray 29)) (Grow.alloc _ (.cells (bc bB).toArray 29)))
  have HT0 := Lib.hid (show Two w.heap.size (w.heap.size + 1) ((w.alloc (.cells (bc aB).toArray 29)).alloc (.cells (bc bB).toArray 29)) from ⟨heap_one _ _ _, heap_two _ _ _⟩)
  have HS0 := Lib.hid (show w.heap.size + 1 < ((w.alloc (.cells (bc aB).toArray 29)).alloc (.cells (bc bB).toArray 29)).heap.size by simp)
  go_enter Try.func21, Try.ntmps21
  go_upto_region 3 with (fail)
  rw [show Z.setIfInBounds 0 (.int .u8 1) = (bc aB).toArray from HAE.out.symm, show Z.setIfInBounds 0 (.int .u8 2) = (bc bB).toArray from HBE.out.symm]
  generalize (w.alloc (.cells (bc aB).toArray 29)).alloc (.cells (bc bB).toArray 29) = W3 at *
  obtain ⟨PA, hPA⟩ : ∃ PA, PA = w.heap.size := ⟨_, rfl⟩
  obtain ⟨PB, hPB⟩ : ∃ PB, PB = w.heap.size + 1 := ⟨_, rfl⟩
  rw [← hPB] at HT0 HS0 ⊢
  rw [← hPA] at HT0 ⊢

  clear hPA hPB hq0 hf0 hq1 hf1 HH0 HH1
  go_wp2_with (first | (refine wpList_load_row rfl _ (.tmp 1) rfl PA rfl 29 (bc aB).toArray (0, 0) _ HT0.out.a Try.underlying29 rfl (bsize HAL.out) ?_) | (refine wpList_build rfl 40 #[(0, .const (.int .i64 5)), (1, .tmp 15)] rfl (ccell (5, aB)).toArray (by simp only [List.map_toArray, List.map_cons, List.map_nil]; exact built_copy 5 aB HAL.out) ?_) | (refine wpList_bs_copy rfl (.tmp 16) rfl (5, aB) HAL.out rfl ?_; intro wA1 gA1 hrA1 hgA1) | (refine wpList_bs_int rfl (.const (.int .i64 5)) rfl 5 rfl ?_; intro wI1 gI1 hrI1 hgI1) | (refine wpList_load_row rfl _ (.tmp 2) rfl PB rfl 29 (bc bB).toArray (0, 0) _ (HT0.out.grow (Grow.trans hgA1 hgI1)).b Try.underlying29 rfl (bsize HBL.out) ?_) | (refine wpList_build rfl 40 #[(0, .const (.int .i64 6)), (1, .tmp 21)] rfl (ccell (6, bB)).toArray (by simp only [List.map_toArray, List.map_cons, List.map_nil]; exact built_copy 6 bB HBL.out) ?_) | (refine wpList_bs_copy rfl (.tmp 22) rfl (6, bB) HBL.out rfl ?_; intro wB1 gB1 hrB1 hgB1) | (refine wpList_bs_tr3 rfl (.tmp 18) (.tmp 20) (.tmp 24) rfl ⟨tC (5, aB), .slice (some ⟨gA1, 0, none⟩) 1 1, .slice none 0 0⟩ ⟨tR 5, .slice none 0 0, .slice (some ⟨gI1, 0, none⟩) 1 1⟩ ⟨tC (6, bB), .slice (some ⟨gB1, 0, none⟩) 1 1, .slice none 0 0⟩ rfl rfl rfl ⟨(TAt.c (CRow.grow (CRow.grow hrA1 hgI1) hgB1) bB_one.2.2), (TAt.r (IRow.grow hrI1 hgB1) iok5), (TAt.c hrB1 bB_one.2.1)⟩ ?_; intro wT1 gT1 hrT1 hgT1))
  have hgs1 : Grow W3 wT1 := Grow.trans (Grow.trans (Grow.trans hgA1 hgI1) hgB1) hgT1
  refine (one_ok hrT1 aB bB rfl).mono ?_
  intro e V1 hpost
  obtain ⟨v1, he, hcr, hg⟩ := hpost
  subst he
  obtain ⟨ao1, co1, hv⟩ := CRow.len hcr
  obtain ⟨g1, k1, hv', _⟩ := CRow.open_ hcr (by simp)
  rw [hv] at hv'
  cases hv'
  subst hv
  have HC1 := Lib.hid hcr
  have HT1 := Lib.hid ((HT0.out.grow hgs1).grow hg)
  have HG1 := Lib.hid (Grow.trans (Grow.trans HG0.out hgs1) hg)
  have HW1 := Lib.hid (Grow.trans hgs1 hg)
  clear hcr hg hgs1 hrA1 hrI1 hrB1 hrT1 hgA1 hgI1 hgB1 hgT1
  go_wp2_with (first | (refine wpList_load_row rfl _ (.tmp 1) rfl PA rfl 29 (bc aB).toArray (0, 0) _ HT1.out.a Try.underlying29 rfl (bsize HAL.out) ?_) | (refine wpList_build rfl 40 #[(0, .const (.int .i64 5)), (1, .tmp 27)] rfl (ccell (5, aB)).toArray (by simp only [List.map_toArray, List.map_cons, List.map_nil]; exact built_copy 5 aB HAL.out) ?_) | (refine wpList_bs_copy rfl (.tmp 28) rfl (5, aB) HAL.out rfl ?_; intro wA2 gA2 hrA2 hgA2) | (refine wpList_bs_int rfl (.const (.int .i64 5)) rfl 5 rfl ?_; intro wI2 gI2 hrI2 hgI2) | (refine wpList_load_row rfl _ (.tmp 2) rfl PB rfl 29 (bc bB).toArray (0, 0) _ (HT1.out.grow (Grow.trans hgA2 hgI2)).b Try.underlying29 rfl (bsize HBL.out) ?_) | (refine wpList_build rfl 40 #[(0, .const (.int .i64 5)), (1, .tmp 33)] rfl (ccell (5, bB)).toArray (by simp only [List.map_toArray, List.map_cons, List.map_nil]; exact built_copy 5 bB HBL.out) ?_) | (refine wpList_bs_copy rfl (.tmp 34) rfl (5, bB) HBL.out rfl ?_; intro wB2 gB2 hrB2 hgB2) | (refine wpList_bs_tr3 rfl (.tmp 30) (.tmp 32) (.tmp 36) rfl ⟨tC (5, aB), .slice (some ⟨gA2, 0, none⟩) 1 1, .slice none 0 0⟩ ⟨tR 5, .slice none 0 0, .slice (some ⟨gI2, 0, none⟩) 1 1⟩ ⟨tC (5, bB), .slice (some ⟨gB2, 0, none⟩) 1 1, .slice none 0 0⟩ rfl rfl rfl ⟨(TAt.c (CRow.grow (CRow.grow hrA2 hgI2) hgB2) bB_one.2.2), (TAt.r (IRow.grow hrI2 hgB2) iok5), (TAt.c hrB2 bB_one.1)⟩ ?_; intro wT2 gT2 hrT2 hgT2))
  have hgs2 : Grow V1 wT2 := Grow.trans (Grow.trans (Grow.trans hgA2 hgI2) hgB2) hgT2
  refine (two_ok hrT2 aB bB rfl).mono ?_
  intro e V2 hpost
  obtain ⟨v2, he, hcr, hg⟩ := hpost
  subst he
  obtain ⟨ao2, co2, hv⟩ := CRow.len hcr
  obtain ⟨g2, k2, hv', _⟩ := CRow.open_ hcr (by simp)
  rw [hv] at hv'
  cases hv'
  subst hv
  have HC2 := Lib.hid hcr
  have HT2 := Lib.hid ((HT1.out.grow hgs2).grow hg)
  have HG2 := Lib.hid (Grow.trans (Grow.trans HG1.out hgs2) hg)
  have HW2 := Lib.hid (Grow.trans hgs2 hg)
  clear hcr hg hgs2 hrA2 hrI2 hrB2 hrT2 hgA2 hgI2 hgB2 hgT2

  go_upto_region 7 with (first | (refine wpList_load_row rfl _ (.tmp 1) rfl PA rfl 29 (bc aB).toArray (0, 0) _ HT2.out.a Try.underlying29 rfl (bsize HAL.out) ?_) | (refine wpList_build rfl 40 #[(0, .const (.int .i64 5)), (1, .tmp 39)] rfl (ccell (5, aB)).toArray (by simp only [List.map_toArray, List.map_cons, List.map_nil]; exact built_copy 5 aB HAL.out) ?_) | (refine wpList_bs_copy rfl (.tmp 40) rfl (5, aB) HAL.out rfl ?_; intro wA3 gA3 hrA3 hgA3) | (refine wpList_bs_int rfl (.const (.int .i64 5)) rfl 5 rfl ?_; intro wI3 gI3 hrI3 hgI3) | (refine wpList_bs_tr1 rfl (.tmp 43) rfl ⟨⟨0, [(5, aB)], [5]⟩, .slice (some ⟨gA3, 0, none⟩) 1 1, .slice (some ⟨gI3, 0, none⟩) 1 1⟩ rfl (TAt.b (CRow.grow hrA3 hgI3) hrI3 bB_one.2.2 iok5) ?_; intro wT3 gT3 hrT3 hgT3) | (go_at_call 14; refine (none_ok hrT3 aB rfl).mono ?_; intro e V3 hpost; obtain ⟨a5, c5, he, hg3⟩ := hpost; subst he))
  have HT3 := Lib.hid (HT2.out.grow (Grow.trans (Grow.trans (Grow.trans hgA3 hgI3) hgT3) (Grow.trans hg3 (Grow.alloc V3 (.cells #[.int .i64 1, .int .i64 16, .int .i64 4, .int .i64 40] 43)))))
  have HG3 := Lib.hid (Grow.trans HG2.out (Grow.trans (Grow.trans (Grow.trans hgA3 hgI3) hgT3) (Grow.trans hg3 (Grow.alloc V3 (.cells #[.int .i64 1, .int .i64 16, .int .i64 4, .int .i64 40] 43)))))
  have HCo := Lib.hid ((HC1.out.grow HW2.out).grow (Grow.trans (Grow.trans (Grow.trans hgA3 hgI3) hgT3) (Grow.trans hg3 (Grow.alloc V3 (.cells #[.int .i64 1, .int .i64 16, .int .i64 4, .int .i64 40] 43)))))
  have HCt := Lib.hid (HC2.out.grow (Grow.trans (Grow.trans (Grow.trans hgA3 hgI3) hgT3) (Grow.trans hg3 (Grow.alloc V3 (.cells #[.int .i64 1, .int .i64 16, .int .i64 4, .int .i64 40] 43)))))
  have HGE := Lib.hid (heap_alloc_last V3 (.cells #[.int .i64 1, .int .i64 16, .int .i64 4, .int .i64 40] 43))
  clear hgA3 hgI3 hgT3 hrA3 hrI3 hrT3 hg3 HC1 HC2 HT1 HT2 HG1 HG2 HW1 HW2
  obtain ⟨W7, hW7⟩ : ∃ W7, W7 = V3.alloc (.cells #[.int .i64 1, .int .i64 16, .int .i64 4, .int .i64 40] 43) := ⟨_, rfl⟩
  rw [← hW7] at HT3 HG3 HCo HCt HGE ⊢
  obtain ⟨PG, hPG⟩ : ∃ PG, PG = V3.heap.size := ⟨_, rfl⟩
  rw [← hPG] at HGE ⊢
  clear hW7 hPG
  go_wp2_with fail
  refine (new_ok 58 (by omega) (by omega) W7).mono ?_
  intro e W8 hpost
  obtain ⟨B, S, he, hd, hg, hs⟩ := hpost
  subst he
  have HW8 := Lib.hid hg
  have HD8 := Lib.hid hd
  have HS8 := Lib.hid hs
  have HGE8 := Lib.hid ((hg.block _ (Array.getElem?_eq_some_iff.1 HGE.out).1).trans HGE.out)
  clear hd hg hs
  go_wp2_with (first | (refine wpList_load_row rfl _ _ rfl PG rfl 43 #[.int .i64 1, .int .i64 16, .int .i64 4, .int .i64 40] (0, 0) _ HGE8.out Try.underlying43 rfl sizeGeo ?_))
  refine (do_good HD8.out (by simp [newD]) rfl rfl rfl rfl 8 (by omega) (by omega)).mono ?_
  intro e W9 hpost
  obtain ⟨he, S', hd, ht, hs⟩ := hpost
  subst he
  have HW9 := Lib.hid (show Grow W7 W9 from Below.trans HW8.out (ht.below HW8.out.size (fun j hj => HS8.out j hj)))
  have HD9 := Lib.hid hd
  have HGE9 := Lib.hid ((HW9.out.block _ (Array.getElem?_eq_some_iff.1 HGE.out).1).trans HGE.out)
  clear hd ht hs HGE8 HD8 HS8 HW8
  go_wp2_with (first | (refine wpList_load_row rfl _ _ rfl PG rfl 43 #[.int .i64 1, .int .i64 16, .int .i64 4, .int .i64 40] (0, 0) _ HGE9.out Try.underlying43 rfl sizeGeo ?_))
  refine (do_bad HD9.out (did_len _)).mono ?_
  intro e W10 hpost
  obtain ⟨he, hg⟩ := hpost
  subst he
  have HW10 := Lib.hid (Grow.trans HW9.out hg)
  have HD10 := Lib.hid (HD9.out.kept (Touch.of_below (S := []) hg) (by simp))
  have HRD := Lib.hid (did_read HD10.out (beginB_length 4 8 0))
  have HBL8 := Lib.hid (beginB_length 4 8 0)
  have HHB := Lib.hid head_bytes
  clear hg HGE9 HGE HD9 HW9
  go_wp2_with fail
  refine HRD.out.mono ?_
  intro e W11 hpost
  obtain ⟨he, hg⟩ := hpost
  subst he
  obtain ⟨hb, hhb⟩ : ∃ hb, hb = beginB 4 8 0 := ⟨_, rfl⟩
  rw [← hhb] at HBL8 HHB ⊢
  have HW11 := Lib.hid (Grow.trans HW10.out hg)
  have HD11 := Lib.hid (HD10.out.kept (Touch.of_below (S := []) hg) (by simp))
  clear hg hhb HRD HW10 HD10
  go_upto_region 11 with (refine wpList_store_row rfl 29 _ _ rfl W11.heap.size (bc hb).toArray rfl rfl 29 Z (heap_alloc_last _ _) (bsize HBL8.out) (by rw [HZS.out, List.size_toArray, bc_length, HBL8.out]) (all_oneCell_toArray (bc_one _)) ?_)
  have HX := Lib.hid (show ((W11.alloc (.cells Z 29)).setRow W11.heap.size (bc hb).toArray).heap[W11.heap.size]? = some (.cells (bc hb).toArray 29) from setRow_heap _ _ _ _ _ _ (heap_alloc_last _ _))
  have hg8 : Grow W11 ((W11.alloc (.cells Z 29)).setRow W11.heap.size (bc hb).toArray) := below_setRow ((Below.refl _ _).alloc (Nat.le_refl _) _) (Nat.le_refl _) _
  have HW1 := Lib.hid (Grow.trans HW11.out hg8)
  have HD1 := Lib.hid (HD11.out.kept (Touch.of_below (S := []) hg8) (by simp))
  generalize (W11.alloc (.cells Z 29)).setRow W11.heap.size (bc hb).toArray = W1 at *
  obtain ⟨PX, hPX⟩ : ∃ PX, PX = W11.heap.size := ⟨_, rfl⟩
  rw [← hPX] at HX ⊢
  have HX4 := Lib.hid (show W1.cell? ⟨PX, 4, none⟩ = some (.int .u8 4) from (cell_at HX.out 4).trans (by unfold bc; simp [HHB.out.1]))
  have HX8 := Lib.hid (show W1.cell? ⟨PX, 8, none⟩ = some (.int .u8 8) from (cell_at HX.out 8).trans (by unfold bc; simp [HHB.out.2]))
  have HLX := Lib.hid (Array.getElem?_eq_some_iff.1 HX.out).1
  have Hg1 := Lib.hid (HCo.out.grow HW1.out)
  have Hg2 := Lib.hid (HCt.out.grow HW1.out)
  have HPB := Lib.hid (HT3.out.grow HW1.out).b
  have HLB := Lib.hid (Array.getElem?_eq_some_iff.1 HPB.out).1
  have HG1 := Lib.hid (Grow.trans HG3.out HW1.out)
  have HEQ := Lib.hid (show ∀ (z : Int) (w : World), (binOp .eql 40 (.agg (ccell (z, bB)).toArray) (.agg (ccell (z, bB)).toArray)).run Try.prog w = .ok (.bool true) w from fun z w => by rw [eqlC (z, bB) (z, bB) bB_len bB_len w, decide_eq_true rfl])
  have HAC := Lib.hid (show ∀ w, Touch [] W1 w → Calls Try.prog 28 #[.pointer (some ⟨B, 0, none⟩)] w fun e w' => e = .returned (.int .i64 3) ∧ w = w' from fun w ht => (acts_any (HD1.out.kept ht (by simp))).mono fun e w' ⟨he, hw⟩ => ⟨by rw [he, did_acts], hw⟩)
  clear hg8 hPX HD1 HD11 HW11 HX HT3 HCo HCt HG3 HW1
  refine wp_region_facts (by kernel_rfl) [[], [(0, some 62)], [(1, some 63)], [(2, some 64)], [(3, some 65)], [(3, some 65), (4, some 66)], [(3, some 65), (5, some 67)], [(3, some 65)], [(3, some 65), (7, some 69)], [(3, some 65), (6, some 68), (8, some 70)], [(3, some 65), (9, some 71)], [(3, some 65), (10, some 72)], [(11, some 73)], [(11, some 73), (12, some 74)], [(11, some 73), (13, some 75)], [(11, some 73), (14, some 76)], [(11, some 73), (15, some 77)], [(16, some 78)], [(16, some 78), (17, some 79)], [(16, some 78), (18, some 80)], [(16, some 78)], [(16, some 78), (20, some 82)], [(16, some 78), (19, some 81), (21, some 83)], [(16, some 78), (22, some 84)], [(16, some 78), (23, some 85)], [(24, some 86)], [(24, some 86), (25, some 87)], [(24, some 86), (26, some 88)], [(24, some 86), (27, some 89)], [(24, some 86), (28, some 90)], [(29, some 91)], [(29, some 91), (30, some 92)], [(29, some 91), (31, some 93)], [(29, some 91), (32, some 94)], [(33, some 95)], [(33, some 95), (34, some 96)], [(33, some 95), (35, some 97)], [(33, some 95), (36, some 98)], [(37, some 99)], [(37, some 99), (38, some 100)], [(37, some 99), (39, some 101)], [(37, some 99), (40, some 102)], [(39, some 101), (41, some 103)], [(42, some 104)], [(42, some 104), (43, some 105)], [(42, some 104), (44, some 106)], [(42, some 104), (45, some 107)], [(42, some 104), (46, some 108)], [(47, some 109)], [(47, some 109), (48, some 110)], [(47, some 109), (49, some 111)], [(47, some 109), (50, some 112)], [(0, some 62), (1, some 63), (2, some 64), (3, some 65), (4, some 66), (5, some 67), (6, some 68), (7, some 69), (8, some 70), (9, some 71), (10, some 72), (11, some 73), (12, some 74), (13, some 75), (14, some 76), (15, some 77), (16, some 78), (17, some 79), (18, some 80), (19, some 81), (20, some 82), (21, some 83), (22, some 84), (23, some 85), (24, some 86), (25, some 87), (26, some 88), (27, some 89), (28, some 90), (29, some 91), (30, some 92), (31, some 93), (32, some 94), (33, some 95), (34, some 96), (35, some 97), (36, some 98), (37, some 99), (38, some 100), (39, some 101), (40, some 102), (41, some 103), (42, some 104), (43, some 105), (44, some 106), (45, some 107), (46, some 108), (47, some 109), (48, some 110), (49, some 111), (50, some 112), (51, some 113)]] [(0, some 62), (1, some 63), (2, some 64), (3, some 65), (4, some 66), (5, some 67), (6, some 68), (7, some 69), (8, some 70), (9, some 71), (10, some 72), (11, some 73), (12, some 74), (13, some 75), (14, some 76), (15, some 77), (16, some 78), (17, some 79), (18, some 80), (19, some 81), (20, some 82), (21, some 83), (22, some 84), (23, some 85), (24, some 86), (25, some 87), (26, some 88), (27, some 89), (28, some 90), (29, some 91), (30, some 92), (31, some 93), (32, some 94), (33, some 95), (34, some 96), (35, some 97), (36, some 98), (37, some 99), (38, some 100), (39, some 101), (40, some 102), (41, some 103), (42, some 104), (43, some 105), (44, some 106), (45, some 107), (46, some 108), (47, some 109), (48, some 110), (49, some 111), (50, some 112), (51, some 113), (52, some 0)] (by kernel_rfl) (by kernel_rfl) (by kernel_rfl) (Touch []) (Touch.refl []) (fun _ _ _ h h' => h.trans h' (fun i hi => .inl hi)) [Is (Value.slice (some ⟨g1, 0, none⟩) 1 co1), Is (Value.int .i64 1), Is (Value.bool true), Is (Value.bool true), Is (Value.slice (some ⟨g1, 0, none⟩) 1 co1), Is (Value.pointer (some ⟨g1, 0, none⟩)), Is (Value.agg (ccell (6, bB)).toArray), Is (Value.agg (bc bB).toArray), Is (Value.agg (ccell (6, bB)).toArray), Is (Value.bool true), Is (Value.bool true), Is (Value.bool true), Is (Value.slice (some ⟨g2, 0, none⟩) 1 co2), Is (Value.int .i64 1), Is (Value.bool true), Is (Value.bool true), Is (Value.bool true), Is (Value.slice (some ⟨g2, 0, none⟩) 1 co2), Is (Value.pointer (some ⟨g2, 0, none⟩)), Is (Value.agg (ccell (5, bB)).toArray), Is (Value.agg (bc bB).toArray), Is (Value.agg (ccell (5, bB)).toArray), Is (Value.bool true), Is (Value.bool true), Is (Value.bool true), Is (Value.slice a5 0 c5), Is (Value.int .i64 0), Is (Value.bool true), Is (Value.bool true), Is (Value.bool true), Is (Value.int .i64 0), Is (Value.bool true), Is (Value.bool true), Is (Value.bool true), Is (Value.int .i64 2), Is (Value.bool true), Is (Value.bool true), Is (Value.bool true), Is (Value.pointer (some ⟨B, 0, none⟩)), Is (Value.int .i64 3), Is (Value.bool true), Is (Value.bool true), Is (Value.bool true), Is (Value.pointer (some ⟨PX, 4, none⟩)), Is (Value.int .u8 4), Is (Value.bool true), Is (Value.bool true), Is (Value.bool true), Is (Value.pointer (some ⟨PX, 8, none⟩)), Is (Value.int .u8 8), Is (Value.bool true), Is (Value.bool true), Is (Value.bool true)] rfl ⟨is_stab _ _, is_stab _ _, is_stab _ _, is_stab _ _, is_stab _ _, is_stab _ _, is_stab _ _, is_stab _ _, is_stab _ _, is_stab _ _, is_stab _ _, is_stab _ _, is_stab _ _, is_stab _ _, is_stab _ _, is_stab _ _, is_stab _ _, is_stab _ _, is_stab _ _, is_stab _ _, is_stab _ _, is_stab _ _, is_stab _ _, is_stab _ _, is_stab _ _, is_stab _ _, is_stab _ _, is_stab _ _, is_stab _ _, is_stab _ _, is_stab _ _, is_stab _ _, is_stab _ _, is_stab _ _, is_stab _ _, is_stab _ _, is_stab _ _, is_stab _ _, is_stab _ _, is_stab _ _, is_stab _ _, is_stab _ _, is_stab _ _, is_stab _ _, is_stab _ _, is_stab _ _, is_stab _ _, is_stab _ _, is_stab _ _, is_stab _ _, is_stab _ _, is_stab _ _, is_stab _ _, trivial⟩ ⟨?o0, ?o1, ?o2, ?o3, ?o4, ?o5, ?o6, ?o7, ?o8, ?o9, ?o10, ?o11, ?o12, ?o13, ?o14, ?o15, ?o16, ?o17, ?o18, ?o19, ?o20, ?o21, ?o22, ?o23, ?o24, ?o25, ?o26, ?o27, ?o28, ?o29, ?o30, ?o31, ?o32, ?o33, ?o34, ?o35, ?o36, ?o37, ?o38, ?o39, ?o40, ?o41, ?o42, ?o43, ?o44, ?o45, ?o46, ?o47, ?o48, ?o49, ?o50, ?o51, ?o52, trivial⟩ ?_
  case o0 =>
    intro vals wq hRq hpq
    simp only [List.getD_cons_zero, List.getD_cons_succ, canonP]
    simp only [Oper.gives]
    go_simp
    exact ⟨is_mk _ _, (Touch.refl []) _⟩
  case o1 =>
    intro vals wq hRq hpq
    simp only [factsP, List.getD_cons_zero, List.getD_cons_succ] at hpq
    have f0 := hpq.1
    replace hpq := hpq.2
    clear hpq
    replace f0 : vals 0 = _ := f0
    simp only [List.getD_cons_zero, List.getD_cons_succ, canonP, f0]
    clear f0
    simp only [Oper.gives]
    go_simp
    exact ⟨is_mk _ _, (Touch.refl []) _⟩
  case o2 =>
    intro vals wq hRq hpq
    simp only [factsP, List.getD_cons_zero, List.getD_cons_succ] at hpq
    have f1 := hpq.1
    replace hpq := hpq.2
    clear hpq
    replace f1 : vals 1 = _ := f1
    simp only [List.getD_cons_zero, List.getD_cons_succ, canonP, f1]
    clear f1
    simp only [Oper.gives]
    go_simp
    exact ⟨is_mk _ _, (Touch.refl []) _⟩
  case o3 =>
    intro vals wq hRq hpq
    simp only [factsP, List.getD_cons_zero, List.getD_cons_succ] at hpq
    have f2 := hpq.1
    replace hpq := hpq.2
    clear hpq
    replace f2 : vals 2 = _ := f2
    simp only [List.getD_cons_zero, List.getD_cons_succ, canonP, f2]
    clear f2
    simp only [Oper.gives]
    go_simp
    exact ⟨is_mk _ _, (Touch.refl []) _⟩
  case o4 =>
    intro vals wq hRq hpq
    simp only [factsP, List.getD_cons_zero, List.getD_cons_succ] at hpq
    have f3 := hpq.1
    replace hpq := hpq.2
    clear hpq
    replace f3 : vals 3 = _ := f3
    simp only [List.getD_cons_zero, List.getD_cons_succ, canonP, f3]
    clear f3
    simp only [Oper.gives]
    go_simp
    exact ⟨is_mk _ _, (Touch.refl []) _⟩
  case o5 =>
    intro vals wq hRq hpq
    simp only [factsP, List.getD_cons_zero, List.getD_cons_succ] at hpq
    have f3 := hpq.1
    replace hpq := hpq.2
    have f4 := hpq.1
    replace hpq := hpq.2
    clear hpq
    replace f3 : vals 3 = _ := f3
    replace f4 : vals 4 = _ := f4
    simp only [List.getD_cons_zero, List.getD_cons_succ, canonP, f3, f4]
    clear f3 f4
    simp only [Oper.gives]
    go_simp
    exact ⟨is_mk _ _, Touch.refl _ _⟩
  case o6 =>
    intro vals wq hRq hpq
    simp only [factsP, List.getD_cons_zero, List.getD_cons_succ] at hpq
    have f3 := hpq.1
    replace hpq := hpq.2
    have f5 := hpq.1
    replace hpq := hpq.2
    clear hpq
    replace f3 : vals 3 = _ := f3
    replace f5 : vals 5 = _ := f5
    simp only [List.getD_cons_zero, List.getD_cons_succ, canonP, f3, f5]
    clear f3 f5
    have hr : CRow wq (.slice (some ⟨g1, 0, none⟩) 1 co1) [(6, bB)] := Row.kept Hg1.out ((Touch.drew [] W1).trans hRq (by simp)) (by simp)
    have hr2 : wq.rangeAt g1 0 (ccell (6, bB)) := (by have := hr.range (k := 0) (c := (6, bB)) rfl; simpa using this)
    rw [if_pos (by rfl)]
    exact gives_load_mid 40 _ rfl g1 0 rfl (ccell (6, bB)) _ hr2 Try.underlying40 rfl (csizeL HBL.out) ⟨is_mk _ _, Touch.refl _ _⟩
  case o7 =>
    intro vals wq hRq hpq
    simp only [factsP, List.getD_cons_zero, List.getD_cons_succ] at hpq
    have f3 := hpq.1
    replace hpq := hpq.2
    clear hpq
    replace f3 : vals 3 = _ := f3
    simp only [List.getD_cons_zero, List.getD_cons_succ, canonP, f3]
    clear f3
    have hbx : wq.heap[PB]? = some (.cells (bc bB).toArray 29) := (hRq.block PB HLB.out (by simp)).trans HPB.out
    rw [if_pos (by rfl)]
    exact gives_load_row 29 _ rfl PB rfl 29 (bc bB).toArray (0, 0) _ hbx Try.underlying29 rfl (bsize HBL.out) ⟨is_mk _ _, Touch.refl _ _⟩
  case o8 =>
    intro vals wq hRq hpq
    simp only [factsP, List.getD_cons_zero, List.getD_cons_succ] at hpq
    have f3 := hpq.1
    replace hpq := hpq.2
    have f7 := hpq.1
    replace hpq := hpq.2
    clear hpq
    replace f3 : vals 3 = _ := f3
    replace f7 : vals 7 = _ := f7
    simp only [List.getD_cons_zero, List.getD_cons_succ, canonP, f3, f7]
    clear f3 f7
    rw [if_pos (by rfl)]
    exact gives_build 40 _ rfl (ccell (6, bB)).toArray (by simp only [List.map_toArray, List.map_cons, List.map_nil]; exact built_copy 6 bB HBL.out) ⟨is_mk _ _, Touch.refl _ _⟩
  case o9 =>
    intro vals wq hRq hpq
    simp only [factsP, List.getD_cons_zero, List.getD_cons_succ] at hpq
    have f3 := hpq.1
    replace hpq := hpq.2
    have f6 := hpq.1
    replace hpq := hpq.2
    have f8 := hpq.1
    replace hpq := hpq.2
    clear hpq
    replace f3 : vals 3 = _ := f3
    replace f6 : vals 6 = _ := f6
    replace f8 : vals 8 = _ := f8
    simp only [List.getD_cons_zero, List.getD_cons_succ, canonP, f3, f6, f8]
    clear f3 f6 f8
    rw [if_pos (by rfl)]
    exact gives_binOp .eql 40 _ _ _ rfl _ _ rfl rfl (gC _ _ _ _ _ wq) (HEQ.out 6 wq) ⟨is_mk _ _, Touch.refl _ _⟩
  case o10 =>
    intro vals wq hRq hpq
    simp only [factsP, List.getD_cons_zero, List.getD_cons_succ] at hpq
    have f3 := hpq.1
    replace hpq := hpq.2
    have f9 := hpq.1
    replace hpq := hpq.2
    clear hpq
    replace f3 : vals 3 = _ := f3
    replace f9 : vals 9 = _ := f9
    simp only [List.getD_cons_zero, List.getD_cons_succ, canonP, f3, f9]
    clear f3 f9
    simp only [Oper.gives]
    go_simp
    exact ⟨is_mk _ _, (Touch.refl []) _⟩
  case o11 =>
    intro vals wq hRq hpq
    simp only [factsP, List.getD_cons_zero, List.getD_cons_succ] at hpq
    have f3 := hpq.1
    replace hpq := hpq.2
    have f10 := hpq.1
    replace hpq := hpq.2
    clear hpq
    replace f3 : vals 3 = _ := f3
    replace f10 : vals 10 = _ := f10
    simp only [List.getD_cons_zero, List.getD_cons_succ, canonP, f3, f10]
    clear f3 f10
    simp only [Oper.gives]
    go_simp
    exact ⟨is_mk _ _, (Touch.refl []) _⟩
  case o12 =>
    intro vals wq hRq hpq
    simp only [factsP, List.getD_cons_zero, List.getD_cons_succ] at hpq
    have f11 := hpq.1
    replace hpq := hpq.2
    clear hpq
    replace f11 : vals 11 = _ := f11
    simp only [List.getD_cons_zero, List.getD_cons_succ, canonP, f11]
    clear f11
    simp only [Oper.gives]
    go_simp
    exact ⟨is_mk _ _, (Touch.refl []) _⟩
  case o13 =>
    intro vals wq hRq hpq
    simp only [factsP, List.getD_cons_zero, List.getD_cons_succ] at hpq
    have f11 := hpq.1
    replace hpq := hpq.2
    have f12 := hpq.1
    replace hpq := hpq.2
    clear hpq
    replace f11 : vals 11 = _ := f11
    replace f12 : vals 12 = _ := f12
    simp only [List.getD_cons_zero, List.getD_cons_succ, canonP, f11, f12]
    clear f11 f12
    simp only [Oper.gives]
    go_simp
    exact ⟨is_mk _ _, (Touch.refl []) _⟩
  case o14 =>
    intro vals wq hRq hpq
    simp only [factsP, List.getD_cons_zero, List.getD_cons_succ] at hpq
    have f11 := hpq.1
    replace hpq := hpq.2
    have f13 := hpq.1
    replace hpq := hpq.2
    clear hpq
    replace f11 : vals 11 = _ := f11
    replace f13 : vals 13 = _ := f13
    simp only [List.getD_cons_zero, List.getD_cons_succ, canonP, f11, f13]
    clear f11 f13
    simp only [Oper.gives]
    go_simp
    exact ⟨is_mk _ _, (Touch.refl []) _⟩
  case o15 =>
    intro vals wq hRq hpq
    simp only [factsP, List.getD_cons_zero, List.getD_cons_succ] at hpq
    have f11 := hpq.1
    replace hpq := hpq.2
    have f14 := hpq.1
    replace hpq := hpq.2
    clear hpq
    replace f11 : vals 11 = _ := f11
    replace f14 : vals 14 = _ := f14
    simp only [List.getD_cons_zero, List.getD_cons_succ, canonP, f11, f14]
    clear f11 f14
    simp only [Oper.gives]
    go_simp
    exact ⟨is_mk _ _, (Touch.refl []) _⟩
  case o16 =>
    intro vals wq hRq hpq
    simp only [factsP, List.getD_cons_zero, List.getD_cons_succ] at hpq
    have f11 := hpq.1
    replace hpq := hpq.2
    have f15 := hpq.1
    replace hpq := hpq.2
    clear hpq
    replace f11 : vals 11 = _ := f11
    replace f15 : vals 15 = _ := f15
    simp only [List.getD_cons_zero, List.getD_cons_succ, canonP, f11, f15]
    clear f11 f15
    simp only [Oper.gives]
    go_simp
    exact ⟨is_mk _ _, (Touch.refl []) _⟩
  case o17 =>
    intro vals wq hRq hpq
    simp only [factsP, List.getD_cons_zero, List.getD_cons_succ] at hpq
    have f16 := hpq.1
    replace hpq := hpq.2
    clear hpq
    replace f16 : vals 16 = _ := f16
    simp only [List.getD_cons_zero, List.getD_cons_succ, canonP, f16]
    clear f16
    simp only [Oper.gives]
    go_simp
    exact ⟨is_mk _ _, (Touch.refl []) _⟩
  case o18 =>
    intro vals wq hRq hpq
    simp only [factsP, List.getD_cons_zero, List.getD_cons_succ] at hpq
    have f16 := hpq.1
    replace hpq := hpq.2
    have f17 := hpq.1
    replace hpq := hpq.2
    clear hpq
    replace f16 : vals 16 = _ := f16
    replace f17 : vals 17 = _ := f17
    simp only [List.getD_cons_zero, List.getD_cons_succ, canonP, f16, f17]
    clear f16 f17
    simp only [Oper.gives]
    go_simp
    exact ⟨is_mk _ _, Touch.refl _ _⟩
  case o19 =>
    intro vals wq hRq hpq
    simp only [factsP, List.getD_cons_zero, List.getD_cons_succ] at hpq
    have f16 := hpq.1
    replace hpq := hpq.2
    have f18 := hpq.1
    replace hpq := hpq.2
    clear hpq
    replace f16 : vals 16 = _ := f16
    replace f18 : vals 18 = _ := f18
    simp only [List.getD_cons_zero, List.getD_cons_succ, canonP, f16, f18]
    clear f16 f18
    have hr : CRow wq (.slice (some ⟨g2, 0, none⟩) 1 co2) [(5, bB)] := Row.kept Hg2.out ((Touch.drew [] W1).trans hRq (by simp)) (by simp)
    have hr2 : wq.rangeAt g2 0 (ccell (5, bB)) := (by have := hr.range (k := 0) (c := (5, bB)) rfl; simpa using this)
    rw [if_pos (by rfl)]
    exact gives_load_mid 40 _ rfl g2 0 rfl (ccell (5, bB)) _ hr2 Try.underlying40 rfl (csizeL HBL.out) ⟨is_mk _ _, Touch.refl _ _⟩
  case o20 =>
    intro vals wq hRq hpq
    simp only [factsP, List.getD_cons_zero, List.getD_cons_succ] at hpq
    have f16 := hpq.1
    replace hpq := hpq.2
    clear hpq
    replace f16 : vals 16 = _ := f16
    simp only [List.getD_cons_zero, List.getD_cons_succ, canonP, f16]
    clear f16
    have hbx : wq.heap[PB]? = some (.cells (bc bB).toArray 29) := (hRq.block PB HLB.out (by simp)).trans HPB.out
    rw [if_pos (by rfl)]
    exact gives_load_row 29 _ rfl PB rfl 29 (bc bB).toArray (0, 0) _ hbx Try.underlying29 rfl (bsize HBL.out) ⟨is_mk _ _, Touch.refl _ _⟩
  case o21 =>
    intro vals wq hRq hpq
    simp only [factsP, List.getD_cons_zero, List.getD_cons_succ] at hpq
    have f16 := hpq.1
    replace hpq := hpq.2
    have f20 := hpq.1
    replace hpq := hpq.2
    clear hpq
    replace f16 : vals 16 = _ := f16
    replace f20 : vals 20 = _ := f20
    simp only [List.getD_cons_zero, List.getD_cons_succ, canonP, f16, f20]
    clear f16 f20
    rw [if_pos (by rfl)]
    exact gives_build 40 _ rfl (ccell (5, bB)).toArray (by simp only [List.map_toArray, List.map_cons, List.map_nil]; exact built_copy 5 bB HBL.out) ⟨is_mk _ _, Touch.refl _ _⟩
  case o22 =>
    intro vals wq hRq hpq
    simp only [factsP, List.getD_cons_zero, List.getD_cons_succ] at hpq
    have f16 := hpq.1
    replace hpq := hpq.2
    have f19 := hpq.1
    replace hpq := hpq.2
    have f21 := hpq.1
    replace hpq := hpq.2
    clear hpq
    replace f16 : vals 16 = _ := f16
    replace f19 : vals 19 = _ := f19
    replace f21 : vals 21 = _ := f21
    simp only [List.getD_cons_zero, List.getD_cons_succ, canonP, f16, f19, f21]
    clear f16 f19 f21
    rw [if_pos (by rfl)]
    exact gives_binOp .eql 40 _ _ _ rfl _ _ rfl rfl (gC _ _ _ _ _ wq) (HEQ.out 5 wq) ⟨is_mk _ _, Touch.refl _ _⟩
  case o23 =>
    intro vals wq hRq hpq
    simp only [factsP, List.getD_cons_zero, List.getD_cons_succ] at hpq
    have f16 := hpq.1
    replace hpq := hpq.2
    have f22 := hpq.1
    replace hpq := hpq.2
    clear hpq
    replace f16 : vals 16 = _ := f16
    replace f22 : vals 22 = _ := f22
    simp only [List.getD_cons_zero, List.getD_cons_succ, canonP, f16, f22]
    clear f16 f22
    simp only [Oper.gives]
    go_simp
    exact ⟨is_mk _ _, (Touch.refl []) _⟩
  case o24 =>
    intro vals wq hRq hpq
    simp only [factsP, List.getD_cons_zero, List.getD_cons_succ] at hpq
    have f16 := hpq.1
    replace hpq := hpq.2
    have f23 := hpq.1
    replace hpq := hpq.2
    clear hpq
    replace f16 : vals 16 = _ := f16
    replace f23 : vals 23 = _ := f23
    simp only [List.getD_cons_zero, List.getD_cons_succ, canonP, f16, f23]
    clear f16 f23
    simp only [Oper.gives]
    go_simp
    exact ⟨is_mk _ _, (Touch.refl []) _⟩
  case o25 =>
    intro vals wq hRq hpq
    simp only [factsP, List.getD_cons_zero, List.getD_cons_succ] at hpq
    have f24 := hpq.1
    replace hpq := hpq.2
    clear hpq
    replace f24 : vals 24 = _ := f24
    simp only [List.getD_cons_zero, List.getD_cons_succ, canonP, f24]
    clear f24
    simp only [Oper.gives]
    go_simp
    exact ⟨is_mk _ _, (Touch.refl []) _⟩
  case o26 =>
    intro vals wq hRq hpq
    simp only [factsP, List.getD_cons_zero, List.getD_cons_succ] at hpq
    have f24 := hpq.1
    replace hpq := hpq.2
    have f25 := hpq.1
    replace hpq := hpq.2
    clear hpq
    replace f24 : vals 24 = _ := f24
    replace f25 : vals 25 = _ := f25
    simp only [List.getD_cons_zero, List.getD_cons_succ, canonP, f24, f25]
    clear f24 f25
    simp only [Oper.gives]
    go_simp
    exact ⟨is_mk _ _, (Touch.refl []) _⟩
  case o27 =>
    intro vals wq hRq hpq
    simp only [factsP, List.getD_cons_zero, List.getD_cons_succ] at hpq
    have f24 := hpq.1
    replace hpq := hpq.2
    have f26 := hpq.1
    replace hpq := hpq.2
    clear hpq
    replace f24 : vals 24 = _ := f24
    replace f26 : vals 26 = _ := f26
    simp only [List.getD_cons_zero, List.getD_cons_succ, canonP, f24, f26]
    clear f24 f26
    simp only [Oper.gives]
    go_simp
    exact ⟨is_mk _ _, (Touch.refl []) _⟩
  case o28 =>
    intro vals wq hRq hpq
    simp only [factsP, List.getD_cons_zero, List.getD_cons_succ] at hpq
    have f24 := hpq.1
    replace hpq := hpq.2
    have f27 := hpq.1
    replace hpq := hpq.2
    clear hpq
    replace f24 : vals 24 = _ := f24
    replace f27 : vals 27 = _ := f27
    simp only [List.getD_cons_zero, List.getD_cons_succ, canonP, f24, f27]
    clear f24 f27
    simp only [Oper.gives]
    go_simp
    exact ⟨is_mk _ _, (Touch.refl []) _⟩
  case o29 =>
    intro vals wq hRq hpq
    simp only [factsP, List.getD_cons_zero, List.getD_cons_succ] at hpq
    have f24 := hpq.1
    replace hpq := hpq.2
    have f28 := hpq.1
    replace hpq := hpq.2
    clear hpq
    replace f24 : vals 24 = _ := f24
    replace f28 : vals 28 = _ := f28
    simp only [List.getD_cons_zero, List.getD_cons_succ, canonP, f24, f28]
    clear f24 f28
    simp only [Oper.gives]
    go_simp
    exact ⟨is_mk _ _, (Touch.refl []) _⟩
  case o30 =>
    intro vals wq hRq hpq
    simp only [factsP, List.getD_cons_zero, List.getD_cons_succ] at hpq
    have f29 := hpq.1
    replace hpq := hpq.2
    clear hpq
    replace f29 : vals 29 = _ := f29
    simp only [List.getD_cons_zero, List.getD_cons_succ, canonP, f29]
    clear f29
    simp only [Oper.gives]
    go_simp
    exact ⟨is_mk _ _, (Touch.refl []) _⟩
  case o31 =>
    intro vals wq hRq hpq
    simp only [factsP, List.getD_cons_zero, List.getD_cons_succ] at hpq
    have f29 := hpq.1
    replace hpq := hpq.2
    have f30 := hpq.1
    replace hpq := hpq.2
    clear hpq
    replace f29 : vals 29 = _ := f29
    replace f30 : vals 30 = _ := f30
    simp only [List.getD_cons_zero, List.getD_cons_succ, canonP, f29, f30]
    clear f29 f30
    simp only [Oper.gives]
    go_simp
    exact ⟨is_mk _ _, (Touch.refl []) _⟩
  case o32 =>
    intro vals wq hRq hpq
    simp only [factsP, List.getD_cons_zero, List.getD_cons_succ] at hpq
    have f29 := hpq.1
    replace hpq := hpq.2
    have f31 := hpq.1
    replace hpq := hpq.2
    clear hpq
    replace f29 : vals 29 = _ := f29
    replace f31 : vals 31 = _ := f31
    simp only [List.getD_cons_zero, List.getD_cons_succ, canonP, f29, f31]
    clear f29 f31
    simp only [Oper.gives]
    go_simp
    exact ⟨is_mk _ _, (Touch.refl []) _⟩
  case o33 =>
    intro vals wq hRq hpq
    simp only [factsP, List.getD_cons_zero, List.getD_cons_succ] at hpq
    have f29 := hpq.1
    replace hpq := hpq.2
    have f32 := hpq.1
    replace hpq := hpq.2
    clear hpq
    replace f29 : vals 29 = _ := f29
    replace f32 : vals 32 = _ := f32
    simp only [List.getD_cons_zero, List.getD_cons_succ, canonP, f29, f32]
    clear f29 f32
    simp only [Oper.gives]
    go_simp
    exact ⟨is_mk _ _, (Touch.refl []) _⟩
  case o34 =>
    intro vals wq hRq hpq
    simp only [factsP, List.getD_cons_zero, List.getD_cons_succ] at hpq
    have f33 := hpq.1
    replace hpq := hpq.2
    clear hpq
    replace f33 : vals 33 = _ := f33
    simp only [List.getD_cons_zero, List.getD_cons_succ, canonP, f33]
    clear f33
    simp only [Oper.gives]
    go_simp
    exact ⟨is_mk _ _, (Touch.refl []) _⟩
  case o35 =>
    intro vals wq hRq hpq
    simp only [factsP, List.getD_cons_zero, List.getD_cons_succ] at hpq
    have f33 := hpq.1
    replace hpq := hpq.2
    have f34 := hpq.1
    replace hpq := hpq.2
    clear hpq
    replace f33 : vals 33 = _ := f33
    replace f34 : vals 34 = _ := f34
    simp only [List.getD_cons_zero, List.getD_cons_succ, canonP, f33, f34]
    clear f33 f34
    simp only [Oper.gives]
    go_simp
    exact ⟨is_mk _ _, (Touch.refl []) _⟩
  case o36 =>
    intro vals wq hRq hpq
    simp only [factsP, List.getD_cons_zero, List.getD_cons_succ] at hpq
    have f33 := hpq.1
    replace hpq := hpq.2
    have f35 := hpq.1
    replace hpq := hpq.2
    clear hpq
    replace f33 : vals 33 = _ := f33
    replace f35 : vals 35 = _ := f35
    simp only [List.getD_cons_zero, List.getD_cons_succ, canonP, f33, f35]
    clear f33 f35
    simp only [Oper.gives]
    go_simp
    exact ⟨is_mk _ _, (Touch.refl []) _⟩
  case o37 =>
    intro vals wq hRq hpq
    simp only [factsP, List.getD_cons_zero, List.getD_cons_succ] at hpq
    have f33 := hpq.1
    replace hpq := hpq.2
    have f36 := hpq.1
    replace hpq := hpq.2
    clear hpq
    replace f33 : vals 33 = _ := f33
    replace f36 : vals 36 = _ := f36
    simp only [List.getD_cons_zero, List.getD_cons_succ, canonP, f33, f36]
    clear f33 f36
    simp only [Oper.gives]
    go_simp
    exact ⟨is_mk _ _, (Touch.refl []) _⟩
  case o38 =>
    intro vals wq hRq hpq
    simp only [factsP, List.getD_cons_zero, List.getD_cons_succ] at hpq
    have f37 := hpq.1
    replace hpq := hpq.2
    clear hpq
    replace f37 : vals 37 = _ := f37
    simp only [List.getD_cons_zero, List.getD_cons_succ, canonP, f37]
    clear f37
    simp only [Oper.gives]
    go_simp
    exact ⟨is_mk _ _, (Touch.refl []) _⟩
  case o39 =>
    intro vals wq hRq hpq
    simp only [factsP, List.getD_cons_zero, List.getD_cons_succ] at hpq
    have f37 := hpq.1
    replace hpq := hpq.2
    have f38 := hpq.1
    replace hpq := hpq.2
    clear hpq
    replace f37 : vals 37 = _ := f37
    replace f38 : vals 38 = _ := f38
    simp only [List.getD_cons_zero, List.getD_cons_succ, canonP, f37, f38]
    clear f37 f38
    simp only [Oper.gives]
    go_simp
    exact (HAC.out wq ((Touch.drew [] W1).trans hRq (by simp))).mono fun e w' ⟨he, hw⟩ => ⟨_, he, is_mk _ _, hw ▸ Touch.refl _ _⟩
  case o40 =>
    intro vals wq hRq hpq
    simp only [factsP, List.getD_cons_zero, List.getD_cons_succ] at hpq
    have f37 := hpq.1
    replace hpq := hpq.2
    have f39 := hpq.1
    replace hpq := hpq.2
    clear hpq
    replace f37 : vals 37 = _ := f37
    replace f39 : vals 39 = _ := f39
    simp only [List.getD_cons_zero, List.getD_cons_succ, canonP, f37, f39]
    clear f37 f39
    simp only [Oper.gives]
    go_simp
    exact ⟨is_mk _ _, (Touch.refl []) _⟩
  case o41 =>
    intro vals wq hRq hpq
    simp only [factsP, List.getD_cons_zero, List.getD_cons_succ] at hpq
    have f37 := hpq.1
    replace hpq := hpq.2
    have f40 := hpq.1
    replace hpq := hpq.2
    clear hpq
    replace f37 : vals 37 = _ := f37
    replace f40 : vals 40 = _ := f40
    simp only [List.getD_cons_zero, List.getD_cons_succ, canonP, f37, f40]
    clear f37 f40
    simp only [Oper.gives]
    go_simp
    exact ⟨is_mk _ _, (Touch.refl []) _⟩
  case o42 =>
    intro vals wq hRq hpq
    simp only [factsP, List.getD_cons_zero, List.getD_cons_succ] at hpq
    have f39 := hpq.1
    replace hpq := hpq.2
    have f41 := hpq.1
    replace hpq := hpq.2
    clear hpq
    replace f39 : vals 39 = _ := f39
    replace f41 : vals 41 = _ := f41
    simp only [List.getD_cons_zero, List.getD_cons_succ, canonP, f39, f41]
    clear f39 f41
    simp only [Oper.gives]
    go_simp
    exact ⟨is_mk _ _, (Touch.refl []) _⟩
  case o43 =>
    intro vals wq hRq hpq
    simp only [factsP, List.getD_cons_zero, List.getD_cons_succ] at hpq
    have f42 := hpq.1
    replace hpq := hpq.2
    clear hpq
    replace f42 : vals 42 = _ := f42
    simp only [List.getD_cons_zero, List.getD_cons_succ, canonP, f42]
    clear f42
    simp only [Oper.gives]
    go_simp
    exact ⟨is_mk _ _, Touch.refl _ _⟩
  case o44 =>
    intro vals wq hRq hpq
    simp only [factsP, List.getD_cons_zero, List.getD_cons_succ] at hpq
    have f42 := hpq.1
    replace hpq := hpq.2
    have f43 := hpq.1
    replace hpq := hpq.2
    clear hpq
    replace f42 : vals 42 = _ := f42
    replace f43 : vals 43 = _ := f43
    simp only [List.getD_cons_zero, List.getD_cons_succ, canonP, f42, f43]
    clear f42 f43
    have hbx : wq.cell? ⟨PX, 4, none⟩ = some (.int .u8 4) := (hRq.cell (a := ⟨PX, 4, none⟩) HLX.out (by simp)).trans HX4.out
    simp only [Oper.gives]
    go_simp
    exact ⟨is_mk _ _, Touch.refl _ _⟩
  case o45 =>
    intro vals wq hRq hpq
    simp only [factsP, List.getD_cons_zero, List.getD_cons_succ] at hpq
    have f42 := hpq.1
    replace hpq := hpq.2
    have f44 := hpq.1
    replace hpq := hpq.2
    clear hpq
    replace f42 : vals 42 = _ := f42
    replace f44 : vals 44 = _ := f44
    simp only [List.getD_cons_zero, List.getD_cons_succ, canonP, f42, f44]
    clear f42 f44
    simp only [Oper.gives]
    go_simp
    exact ⟨is_mk _ _, (Touch.refl []) _⟩
  case o46 =>
    intro vals wq hRq hpq
    simp only [factsP, List.getD_cons_zero, List.getD_cons_succ] at hpq
    have f42 := hpq.1
    replace hpq := hpq.2
    have f45 := hpq.1
    replace hpq := hpq.2
    clear hpq
    replace f42 : vals 42 = _ := f42
    replace f45 : vals 45 = _ := f45
    simp only [List.getD_cons_zero, List.getD_cons_succ, canonP, f42, f45]
    clear f42 f45
    simp only [Oper.gives]
    go_simp
    exact ⟨is_mk _ _, (Touch.refl []) _⟩
  case o47 =>
    intro vals wq hRq hpq
    simp only [factsP, List.getD_cons_zero, List.getD_cons_succ] at hpq
    have f42 := hpq.1
    replace hpq := hpq.2
    have f46 := hpq.1
    replace hpq := hpq.2
    clear hpq
    replace f42 : vals 42 = _ := f42
    replace f46 : vals 46 = _ := f46
    simp only [List.getD_cons_zero, List.getD_cons_succ, canonP, f42, f46]
    clear f42 f46
    simp only [Oper.gives]
    go_simp
    exact ⟨is_mk _ _, (Touch.refl []) _⟩
  case o48 =>
    intro vals wq hRq hpq
    simp only [factsP, List.getD_cons_zero, List.getD_cons_succ] at hpq
    have f47 := hpq.1
    replace hpq := hpq.2
    clear hpq
    replace f47 : vals 47 = _ := f47
    simp only [List.getD_cons_zero, List.getD_cons_succ, canonP, f47]
    clear f47
    simp only [Oper.gives]
    go_simp
    exact ⟨is_mk _ _, Touch.refl _ _⟩
  case o49 =>
    intro vals wq hRq hpq
    simp only [factsP, List.getD_cons_zero, List.getD_cons_succ] at hpq
    have f47 := hpq.1
    replace hpq := hpq.2
    have f48 := hpq.1
    replace hpq := hpq.2
    clear hpq
    replace f47 : vals 47 = _ := f47
    replace f48 : vals 48 = _ := f48
    simp only [List.getD_cons_zero, List.getD_cons_succ, canonP, f47, f48]
    clear f47 f48
    have hbx : wq.cell? ⟨PX, 8, none⟩ = some (.int .u8 8) := (hRq.cell (a := ⟨PX, 8, none⟩) HLX.out (by simp)).trans HX8.out
    simp only [Oper.gives]
    go_simp
    exact ⟨is_mk _ _, Touch.refl _ _⟩
  case o50 =>
    intro vals wq hRq hpq
    simp only [factsP, List.getD_cons_zero, List.getD_cons_succ] at hpq
    have f47 := hpq.1
    replace hpq := hpq.2
    have f49 := hpq.1
    replace hpq := hpq.2
    clear hpq
    replace f47 : vals 47 = _ := f47
    replace f49 : vals 49 = _ := f49
    simp only [List.getD_cons_zero, List.getD_cons_succ, canonP, f47, f49]
    clear f47 f49
    simp only [Oper.gives]
    go_simp
    exact ⟨is_mk _ _, (Touch.refl []) _⟩
  case o51 =>
    intro vals wq hRq hpq
    simp only [factsP, List.getD_cons_zero, List.getD_cons_succ] at hpq
    have f47 := hpq.1
    replace hpq := hpq.2
    have f50 := hpq.1
    replace hpq := hpq.2
    clear hpq
    replace f47 : vals 47 = _ := f47
    replace f50 : vals 50 = _ := f50
    simp only [List.getD_cons_zero, List.getD_cons_succ, canonP, f47, f50]
    clear f47 f50
    simp only [Oper.gives]
    go_simp
    exact ⟨is_mk _ _, (Touch.refl []) _⟩
  case o52 =>
    intro vals wq hRq hpq
    simp only [factsP, List.getD_cons_zero, List.getD_cons_succ] at hpq
    have f0 := hpq.1
    replace hpq := hpq.2
    have f1 := hpq.1
    replace hpq := hpq.2
    have f2 := hpq.1
    replace hpq := hpq.2
    have f3 := hpq.1
    replace hpq := hpq.2
    have f4 := hpq.1
    replace hpq := hpq.2
    have f5 := hpq.1
    replace hpq := hpq.2
    have f6 := hpq.1
    replace hpq := hpq.2
    have f7 := hpq.1
    replace hpq := hpq.2
    have f8 := hpq.1
    replace hpq := hpq.2
    have f9 := hpq.1
    replace hpq := hpq.2
    have f10 := hpq.1
    replace hpq := hpq.2
    have f11 := hpq.1
    replace hpq := hpq.2
    have f12 := hpq.1
    replace hpq := hpq.2
    have f13 := hpq.1
    replace hpq := hpq.2
    have f14 := hpq.1
    replace hpq := hpq.2
    have f15 := hpq.1
    replace hpq := hpq.2
    have f16 := hpq.1
    replace hpq := hpq.2
    have f17 := hpq.1
    replace hpq := hpq.2
    have f18 := hpq.1
    replace hpq := hpq.2
    have f19 := hpq.1
    replace hpq := hpq.2
    have f20 := hpq.1
    replace hpq := hpq.2
    have f21 := hpq.1
    replace hpq := hpq.2
    have f22 := hpq.1
    replace hpq := hpq.2
    have f23 := hpq.1
    replace hpq := hpq.2
    have f24 := hpq.1
    replace hpq := hpq.2
    have f25 := hpq.1
    replace hpq := hpq.2
    have f26 := hpq.1
    replace hpq := hpq.2
    have f27 := hpq.1
    replace hpq := hpq.2
    have f28 := hpq.1
    replace hpq := hpq.2
    have f29 := hpq.1
    replace hpq := hpq.2
    have f30 := hpq.1
    replace hpq := hpq.2
    have f31 := hpq.1
    replace hpq := hpq.2
    have f32 := hpq.1
    replace hpq := hpq.2
    have f33 := hpq.1
    replace hpq := hpq.2
    have f34 := hpq.1
    replace hpq := hpq.2
    have f35 := hpq.1
    replace hpq := hpq.2
    have f36 := hpq.1
    replace hpq := hpq.2
    have f37 := hpq.1
    replace hpq := hpq.2
    have f38 := hpq.1
    replace hpq := hpq.2
    have f39 := hpq.1
    replace hpq := hpq.2
    have f40 := hpq.1
    replace hpq := hpq.2
    have f41 := hpq.1
    replace hpq := hpq.2
    have f42 := hpq.1
    replace hpq := hpq.2
    have f43 := hpq.1
    replace hpq := hpq.2
    have f44 := hpq.1
    replace hpq := hpq.2
    have f45 := hpq.1
    replace hpq := hpq.2
    have f46 := hpq.1
    replace hpq := hpq.2
    have f47 := hpq.1
    replace hpq := hpq.2
    have f48 := hpq.1
    replace hpq := hpq.2
    have f49 := hpq.1
    replace hpq := hpq.2
    have f50 := hpq.1
    replace hpq := hpq.2
    have f51 := hpq.1
    replace hpq := hpq.2
    clear hpq
    replace f0 : vals 0 = _ := f0
    replace f1 : vals 1 = _ := f1
    replace f2 : vals 2 = _ := f2
    replace f3 : vals 3 = _ := f3
    replace f4 : vals 4 = _ := f4
    replace f5 : vals 5 = _ := f5
    replace f6 : vals 6 = _ := f6
    replace f7 : vals 7 = _ := f7
    replace f8 : vals 8 = _ := f8
    replace f9 : vals 9 = _ := f9
    replace f10 : vals 10 = _ := f10
    replace f11 : vals 11 = _ := f11
    replace f12 : vals 12 = _ := f12
    replace f13 : vals 13 = _ := f13
    replace f14 : vals 14 = _ := f14
    replace f15 : vals 15 = _ := f15
    replace f16 : vals 16 = _ := f16
    replace f17 : vals 17 = _ := f17
    replace f18 : vals 18 = _ := f18
    replace f19 : vals 19 = _ := f19
    replace f20 : vals 20 = _ := f20
    replace f21 : vals 21 = _ := f21
    replace f22 : vals 22 = _ := f22
    replace f23 : vals 23 = _ := f23
    replace f24 : vals 24 = _ := f24
    replace f25 : vals 25 = _ := f25
    replace f26 : vals 26 = _ := f26
    replace f27 : vals 27 = _ := f27
    replace f28 : vals 28 = _ := f28
    replace f29 : vals 29 = _ := f29
    replace f30 : vals 30 = _ := f30
    replace f31 : vals 31 = _ := f31
    replace f32 : vals 32 = _ := f32
    replace f33 : vals 33 = _ := f33
    replace f34 : vals 34 = _ := f34
    replace f35 : vals 35 = _ := f35
    replace f36 : vals 36 = _ := f36
    replace f37 : vals 37 = _ := f37
    replace f38 : vals 38 = _ := f38
    replace f39 : vals 39 = _ := f39
    replace f40 : vals 40 = _ := f40
    replace f41 : vals 41 = _ := f41
    replace f42 : vals 42 = _ := f42
    replace f43 : vals 43 = _ := f43
    replace f44 : vals 44 = _ := f44
    replace f45 : vals 45 = _ := f45
    replace f46 : vals 46 = _ := f46
    replace f47 : vals 47 = _ := f47
    replace f48 : vals 48 = _ := f48
    replace f49 : vals 49 = _ := f49
    replace f50 : vals 50 = _ := f50
    replace f51 : vals 51 = _ := f51
    simp only [List.getD_cons_zero, List.getD_cons_succ, canonP, f0, f1, f2, f3, f4, f5, f6, f7, f8, f9, f10, f11, f12, f13, f14, f15, f16, f17, f18, f19, f20, f21, f22, f23, f24, f25, f26, f27, f28, f29, f30, f31, f32, f33, f34, f35, f36, f37, f38, f39, f40, f41, f42, f43, f44, f45, f46, f47, f48, f49, f50, f51]
    clear f0 f1 f2 f3 f4 f5 f6 f7 f8 f9 f10 f11 f12 f13 f14 f15 f16 f17 f18 f19 f20 f21 f22 f23 f24 f25 f26 f27 f28 f29 f30 f31 f32 f33 f34 f35 f36 f37 f38 f39 f40 f41 f42 f43 f44 f45 f46 f47 f48 f49 f50 f51
    simp only [Oper.gives]
    go_simp
    exact ⟨is_mk _ _, (Touch.refl []) _⟩
  intro vals W6 hRW6 hfW6
  simp only [AllFacts] at hfW6
  have g0 := hfW6.1
  replace hfW6 := hfW6.2
  have g1 := hfW6.1
  replace hfW6 := hfW6.2
  have g2 := hfW6.1
  replace hfW6 := hfW6.2
  have g3 := hfW6.1
  replace hfW6 := hfW6.2
  have g4 := hfW6.1
  replace hfW6 := hfW6.2
  have g5 := hfW6.1
  replace hfW6 := hfW6.2
  have g6 := hfW6.1
  replace hfW6 := hfW6.2
  have g7 := hfW6.1
  replace hfW6 := hfW6.2
  have g8 := hfW6.1
  replace hfW6 := hfW6.2
  have g9 := hfW6.1
  replace hfW6 := hfW6.2
  have g10 := hfW6.1
  replace hfW6 := hfW6.2
  have g11 := hfW6.1
  replace hfW6 := hfW6.2
  have g12 := hfW6.1
  replace hfW6 := hfW6.2
  have g13 := hfW6.1
  replace hfW6 := hfW6.2
  have g14 := hfW6.1
  replace hfW6 := hfW6.2
  have g15 := hfW6.1
  replace hfW6 := hfW6.2
  have g16 := hfW6.1
  replace hfW6 := hfW6.2
  have g17 := hfW6.1
  replace hfW6 := hfW6.2
  have g18 := hfW6.1
  replace hfW6 := hfW6.2
  have g19 := hfW6.1
  replace hfW6 := hfW6.2
  have g20 := hfW6.1
  replace hfW6 := hfW6.2
  have g21 := hfW6.1
  replace hfW6 := hfW6.2
  have g22 := hfW6.1
  replace hfW6 := hfW6.2
  have g23 := hfW6.1
  replace hfW6 := hfW6.2
  have g24 := hfW6.1
  replace hfW6 := hfW6.2
  have g25 := hfW6.1
  replace hfW6 := hfW6.2
  have g26 := hfW6.1
  replace hfW6 := hfW6.2
  have g27 := hfW6.1
  replace hfW6 := hfW6.2
  have g28 := hfW6.1
  replace hfW6 := hfW6.2
  have g29 := hfW6.1
  replace hfW6 := hfW6.2
  have g30 := hfW6.1
  replace hfW6 := hfW6.2
  have g31 := hfW6.1
  replace hfW6 := hfW6.2
  have g32 := hfW6.1
  replace hfW6 := hfW6.2
  have g33 := hfW6.1
  replace hfW6 := hfW6.2
  have g34 := hfW6.1
  replace hfW6 := hfW6.2
  have g35 := hfW6.1
  replace hfW6 := hfW6.2
  have g36 := hfW6.1
  replace hfW6 := hfW6.2
  have g37 := hfW6.1
  replace hfW6 := hfW6.2
  have g38 := hfW6.1
  replace hfW6 := hfW6.2
  have g39 := hfW6.1
  replace hfW6 := hfW6.2
  have g40 := hfW6.1
  replace hfW6 := hfW6.2
  have g41 := hfW6.1
  replace hfW6 := hfW6.2
  have g42 := hfW6.1
  replace hfW6 := hfW6.2
  have g43 := hfW6.1
  replace hfW6 := hfW6.2
  have g44 := hfW6.1
  replace hfW6 := hfW6.2
  have g45 := hfW6.1
  replace hfW6 := hfW6.2
  have g46 := hfW6.1
  replace hfW6 := hfW6.2
  have g47 := hfW6.1
  replace hfW6 := hfW6.2
  have g48 := hfW6.1
  replace hfW6 := hfW6.2
  have g49 := hfW6.1
  replace hfW6 := hfW6.2
  have g50 := hfW6.1
  replace hfW6 := hfW6.2
  have g51 := hfW6.1
  replace hfW6 := hfW6.2
  have g52 := hfW6.1
  replace hfW6 := hfW6.2
  clear hfW6
  replace g0 : vals 0 = _ := g0
  replace g1 : vals 1 = _ := g1
  replace g2 : vals 2 = _ := g2
  replace g3 : vals 3 = _ := g3
  replace g4 : vals 4 = _ := g4
  replace g5 : vals 5 = _ := g5
  replace g6 : vals 6 = _ := g6
  replace g7 : vals 7 = _ := g7
  replace g8 : vals 8 = _ := g8
  replace g9 : vals 9 = _ := g9
  replace g10 : vals 10 = _ := g10
  replace g11 : vals 11 = _ := g11
  replace g12 : vals 12 = _ := g12
  replace g13 : vals 13 = _ := g13
  replace g14 : vals 14 = _ := g14
  replace g15 : vals 15 = _ := g15
  replace g16 : vals 16 = _ := g16
  replace g17 : vals 17 = _ := g17
  replace g18 : vals 18 = _ := g18
  replace g19 : vals 19 = _ := g19
  replace g20 : vals 20 = _ := g20
  replace g21 : vals 21 = _ := g21
  replace g22 : vals 22 = _ := g22
  replace g23 : vals 23 = _ := g23
  replace g24 : vals 24 = _ := g24
  replace g25 : vals 25 = _ := g25
  replace g26 : vals 26 = _ := g26
  replace g27 : vals 27 = _ := g27
  replace g28 : vals 28 = _ := g28
  replace g29 : vals 29 = _ := g29
  replace g30 : vals 30 = _ := g30
  replace g31 : vals 31 = _ := g31
  replace g32 : vals 32 = _ := g32
  replace g33 : vals 33 = _ := g33
  replace g34 : vals 34 = _ := g34
  replace g35 : vals 35 = _ := g35
  replace g36 : vals 36 = _ := g36
  replace g37 : vals 37 = _ := g37
  replace g38 : vals 38 = _ := g38
  replace g39 : vals 39 = _ := g39
  replace g40 : vals 40 = _ := g40
  replace g41 : vals 41 = _ := g41
  replace g42 : vals 42 = _ := g42
  replace g43 : vals 43 = _ := g43
  replace g44 : vals 44 = _ := g44
  replace g45 : vals 45 = _ := g45
  replace g46 : vals 46 = _ := g46
  replace g47 : vals 47 = _ := g47
  replace g48 : vals 48 = _ := g48
  replace g49 : vals 49 = _ := g49
  replace g50 : vals 50 = _ := g50
  replace g51 : vals 51 = _ := g51
  replace g52 : vals 52 = _ := g52
  simp only [canonP, Act.put, List.setIfInBounds_toArray, List.set_cons_succ, List.set_cons_zero, g0, g1, g2, g3, g4, g5, g6, g7, g8, g9, g10, g11, g12, g13, g14, g15, g16, g17, g18, g19, g20, g21, g22, g23, g24, g25, g26, g27, g28, g29, g30, g31, g32, g33, g34, g35, g36, g37, g38, g39, g40, g41, g42, g43, g44, g45, g46, g47, g48, g49, g50, g51, g52]
  clear g0 g1 g2 g3 g4 g5 g6 g7 g8 g9 g10 g11 g12 g13 g14 g15 g16 g17 g18 g19 g20 g21 g22 g23 g24 g25 g26 g27 g28 g29 g30 g31 g32 g33 g34 g35 g36 g37 g38 g39 g40 g41 g42 g43 g44 g45 g46 g47 g48 g49 g50 g51 g52
  have HR6 := Lib.hid (show Grow W1 W6 from ((Touch.drew [] W1).trans hRW6 (by simp)).below (Nat.le_refl _) (by simp))
  clear hRW6
  go_wp2_with fail
  go_ret
  exact ⟨rfl, Grow.trans HG1.out HR6.out⟩
#print axioms awake_ok
end Go.Proofs.Ytlhhbkpocpnebaa
