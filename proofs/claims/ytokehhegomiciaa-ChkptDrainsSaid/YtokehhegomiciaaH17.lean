/- awake: the walk. -/
import Derived.Test.YtokehhegomiciaaH17a
set_option linter.unusedVariables false
set_option linter.unusedSimpArgs false
namespace Go.Proofs.Ytokehhegomiciaa
open Go.RowKit Go.Maps

/-- one copy, two copies, in a row of their own -/
theorem wpList_bs_see1 {w : World} {ops : Array Oper} {rest : List Oper} {o : Oper} {a : Act} {Q : Exit → Act → World → Prop} (hgd : o.guard = none) (x : Operand) (ho : o.op = .buildSlice 36 1 #[(0, x)]) (c : Cp) (hc : CpOk c) (hx : a.eval x = .agg (ccell c).toArray)
    (hK : ∀ w' g, CSee w' (.slice (some ⟨g, 0, none⟩) 1 1) [c] → Grow w w' → w.heap.size ≤ g → wpList Try.prog ops Q rest (a.put o.dst (.slice (some ⟨g, 0, none⟩) 1 1)) w') : wpList Try.prog ops Q (o :: rest) a w :=
  wpList_buildSlice hgd _ 1 _ ho (by simp only [List.map_toArray, List.map_cons, List.map_nil, hx]; exact buildSlice_copy c hc.2 w)
    (hK _ _ ⟨see_new (l := [ccell c]) (by simpa using ccell_length hc.2) (by simpa using heap_alloc_last w _), fun y hy => by rw [List.mem_singleton.1 hy]; exact hc⟩ (Grow.alloc _ _) (Nat.le_refl _))
theorem wpList_bs_see2 {w : World} {ops : Array Oper} {rest : List Oper} {o : Oper} {a : Act} {Q : Exit → Act → World → Prop} (hgd : o.guard = none) (x y : Operand) (ho : o.op = .buildSlice 36 2 #[(0, x), (1, y)]) (c d : Cp) (hc : CpOk c) (hd : CpOk d) (hx : a.eval x = .agg (ccell c).toArray) (hy : a.eval y = .agg (ccell d).toArray)
    (hK : ∀ w' g, CSee w' (.slice (some ⟨g, 0, none⟩) 2 2) [c, d] → Grow w w' → w.heap.size ≤ g → wpList Try.prog ops Q rest (a.put o.dst (.slice (some ⟨g, 0, none⟩) 2 2)) w') : wpList Try.prog ops Q (o :: rest) a w :=
  wpList_buildSlice hgd _ 2 _ ho (by simp only [List.map_toArray, List.map_cons, List.map_nil, hx, hy]; exact buildSlice_copy2 c d hc.2 hd.2 w)
    (hK _ _ ⟨see_new (l := [ccell c, ccell d]) (by simpa using ⟨ccell_length hc.2, ccell_length hd.2⟩) (heap_alloc_last w _), fun y hy => by
      simp only [List.mem_cons, List.not_mem_nil, or_false] at hy
      rcases hy with rfl | rfl
      · exact hc
      · exact hd⟩ (Grow.alloc _ _) (Nat.le_refl _))
theorem alloc_three (w : World) (a b c : Obj) : (((w.alloc a).alloc b).alloc c).heap[w.heap.size]? = some a ∧ (((w.alloc a).alloc b).alloc c).heap[w.heap.size + 1]? = some b ∧ (((w.alloc a).alloc b).alloc c).heap[w.heap.size + 1 + 1]? = some c := by
  refine ⟨?_, ?_, ?_⟩
  · rw [Below.heap_alloc _ _ _ (by simp; omega), Below.heap_alloc _ _ _ (by simp)]; exact heap_alloc_last _ _
  · rw [Below.heap_alloc _ _ _ (by simp)]; exact heap_two _ _ _
  · have := heap_alloc_last ((w.alloc a).alloc b) c
    simpa using this
set_option maxRecDepth 100000 in
set_option maxHeartbeats 40000000 in
theorem awake_ok (w : World) : Calls Try.prog 10 #[] w fun e w' => e = .returned (.bool true) ∧ Grow w w' := by
  have hz := zero32
  have hzs := zero_size
  generalize hZ : (bc zeroB).toArray = Z at *
  have HZS := Lib.hid hzs
  clear hZ hzs
  have HSB : ∀ x : Blk, x.length = 256 → Hid ((Try.prog.info? 33).map (·.size) = some (bc x).toArray.size) := fun x hx => Lib.hid (by rw [List.size_toArray, bc_length, hx]; exact size32)
  have HSE : ∀ x : Blk, x.length = 256 → Hid (Z.size = (bc x).toArray.size) := fun x hx => Lib.hid (by rw [HZS.out, List.size_toArray, bc_length, hx])
  have HBO : ∀ x : Blk, Hid ((bc x).toArray.all (·.oneCell') = true) := fun x => Lib.hid (all_oneCell_toArray (bc_one _))
  go_enter Try.func10, Try.ntmps10
  go_wp2_with fail
  refine (small_ok _).mono ?_
  intro e w1 hp
  obtain ⟨rfl, hg1⟩ := hp
  have HG1 := Lib.hid hg1
  clear hg1
  go_wp2_with fail
  refine (new_ok small_may w1).mono ?_
  intro e w2 hp
  obtain ⟨B, rfl, hl2, hB, hg2⟩ := hp
  have HL2 := Lib.hid hl2
  have HB := Lib.hid hB
  have HG2 := Lib.hid (show Grow w w2 from HG1.out.trans hg2)
  clear hl2 hB hg2
  go_wp2_with fail
  refine (fill_any 1 (by omega) _).mono ?_
  intro e w3 hp
  obtain ⟨rfl, hg3⟩ := hp
  go_wp2_with fail
  refine (fill_any 2 (by omega) _).mono ?_
  intro e w4 hp
  obtain ⟨rfl, hg4⟩ := hp
  go_wp2_with fail
  refine (fill_any 3 (by omega) _).mono ?_
  intro e w5 hp
  obtain ⟨rfl, hg5⟩ := hp
  have HG5 := Lib.hid (show Grow w2 w5 from hg3.trans (hg4.trans hg5))
  have HXl := Lib.hid (fillB_length 1)
  have HYl := Lib.hid (fillB_length 2)
  have HZl := Lib.hid (fillB_length 3)
  generalize fillB 1 = x at *
  generalize fillB 2 = y at *
  generalize fillB 3 = z at *
  clear hg3 hg4 hg5
  have h3 := alloc_three w5 (.cells Z 33) (.cells Z 33) (.cells Z 33)
  have HA0 := Lib.hid h3.1
  have HA1 := Lib.hid (show ((((w5.alloc (.cells Z 33)).alloc (.cells Z 33)).alloc (.cells Z 33)).setRow w5.heap.size (bc x).toArray).heap[w5.heap.size + 1]? = some (.cells Z 33) from (setRow_other _ _ _ _ (by omega)).trans h3.2.1)
  have HA2 := Lib.hid (show (((((w5.alloc (.cells Z 33)).alloc (.cells Z 33)).alloc (.cells Z 33)).setRow w5.heap.size (bc x).toArray).setRow (w5.heap.size + 1) (bc y).toArray).heap[w5.heap.size + 1 + 1]? = some (.cells Z 33) from (setRow_other _ _ _ _ (by omega)).trans ((setRow_other _ _ _ _ (by omega)).trans h3.2.2))
  clear h3
  go_upto_region 5 with (first | (refine wpList_store_row rfl 33 _ _ rfl w5.heap.size (bc x).toArray rfl rfl 33 Z HA0.out (HSB x HXl.out).out (HSE x HXl.out).out (HBO x).out ?_) | (refine wpList_store_row rfl 33 _ _ rfl (w5.heap.size + 1) (bc y).toArray rfl rfl 33 Z HA1.out (HSB y HYl.out).out (HSE y HYl.out).out (HBO y).out ?_) | (refine wpList_store_row rfl 33 _ _ rfl (w5.heap.size + 1 + 1) (bc z).toArray rfl rfl 33 Z HA2.out (HSB z HZl.out).out (HSE z HZl.out).out (HBO z).out ?_))
  have HF2 := Lib.hid (show ((((((w5.alloc (.cells Z 33)).alloc (.cells Z 33)).alloc (.cells Z 33)).setRow w5.heap.size (bc x).toArray).setRow (w5.heap.size + 1) (bc y).toArray).setRow (w5.heap.size + 1 + 1) (bc z).toArray).heap[w5.heap.size + 1 + 1]? = some (.cells (bc z).toArray 33) from setRow_heap _ _ _ _ _ _ HA2.out)
  have HF1 := Lib.hid (show ((((((w5.alloc (.cells Z 33)).alloc (.cells Z 33)).alloc (.cells Z 33)).setRow w5.heap.size (bc x).toArray).setRow (w5.heap.size + 1) (bc y).toArray).setRow (w5.heap.size + 1 + 1) (bc z).toArray).heap[w5.heap.size + 1]? = some (.cells (bc y).toArray 33) from (setRow_other _ _ _ _ (by omega)).trans (setRow_heap _ _ _ _ _ _ HA1.out))
  have HF0 := Lib.hid (show ((((((w5.alloc (.cells Z 33)).alloc (.cells Z 33)).alloc (.cells Z 33)).setRow w5.heap.size (bc x).toArray).setRow (w5.heap.size + 1) (bc y).toArray).setRow (w5.heap.size + 1 + 1) (bc z).toArray).heap[w5.heap.size]? = some (.cells (bc x).toArray 33) from (setRow_other _ _ _ _ (by omega)).trans ((setRow_other _ _ _ _ (by omega)).trans (setRow_heap _ _ _ _ _ _ HA0.out)))
  have HG6 := Lib.hid (show Grow w5 ((((((w5.alloc (.cells Z 33)).alloc (.cells Z 33)).alloc (.cells Z 33)).setRow w5.heap.size (bc x).toArray).setRow (w5.heap.size + 1) (bc y).toArray).setRow (w5.heap.size + 1 + 1) (bc z).toArray) from below_setRow (below_setRow (below_setRow (((Grow.alloc w5 _).trans (Grow.alloc _ _)).trans (Grow.alloc _ _)) (Nat.le_refl _) _) (by omega) _) (by omega) _)
  generalize ((((((w5.alloc (.cells Z 33)).alloc (.cells Z 33)).alloc (.cells Z 33)).setRow w5.heap.size (bc x).toArray).setRow (w5.heap.size + 1) (bc y).toArray).setRow (w5.heap.size + 1 + 1) (bc z).toArray) = w6 at *
  have hio : ∀ q : Int, 0 ≤ q → q ≤ 100 → IntOk q := fun q h1 h2 => ⟨by omega, by omega⟩
  have HC1 := Lib.hid (show CpOk (90, x) from ⟨hio 90 (by omega) (by omega), HXl.out⟩)
  have HC2 := Lib.hid (show CpOk (91, y) from ⟨hio 91 (by omega) (by omega), HYl.out⟩)
  have HC3 := Lib.hid (show CpOk (90, z) from ⟨hio 90 (by omega) (by omega), HZl.out⟩)
  have HIO := Lib.hid hio
  clear hio
  go_wp2_with (first | (refine wpList_load_row rfl 33 _ rfl w5.heap.size rfl 33 (bc x).toArray (0, 0) _ HF0.out Try.underlying33 rfl (HSB x HXl.out).out ?_) | (refine wpList_load_row rfl 33 _ rfl (w5.heap.size + 1) rfl 33 (bc y).toArray (0, 0) _ HF1.out Try.underlying33 rfl (HSB y HYl.out).out ?_) | (refine wpList_build_copy rfl _ _ rfl 90 x HXl.out rfl rfl ?_) | (refine wpList_build_copy rfl _ _ rfl 91 y HYl.out rfl rfl ?_) | (refine wpList_bs_see2 rfl _ _ rfl (90, x) (91, y) HC1.out HC2.out rfl rfl ?_; intro w7 g7 hs7 hg7 hl7))
  have hlt2 : B < w5.heap.size := Nat.lt_of_lt_of_le HL2.out.lt HG5.out.size
  have HLT := Lib.hid hlt2
  have h56 := HG6.out.size
  have h67 := hg7.size
  have HZ7 := Lib.hid ((hg7.block _ (Array.getElem?_eq_some_iff.1 HF2.out).1).trans HF2.out)
  have HZlt := Lib.hid (show w5.heap.size + 1 + 1 < w7.heap.size from (Array.getElem?_eq_some_iff.1 HZ7.out).1)
  have HG7 := Lib.hid (show Grow w w7 from HG2.out.trans (HG5.out.trans (HG6.out.trans hg7)))
  refine (add_ok (seq := 7) (rs := []) (HL2.out.grow (HG5.out.trans (HG6.out.trans hg7))) (by intro k hk; rw [List.mem_singleton.1 hk]; omega) small_may hs7 ⟨see_none _ _, by simp⟩ (by simp) (by simp) (by omega) (HIO.out 1 (by omega) (by omega)) (HIO.out 5 (by omega) (by omega)) (by intro k hk _; cases hk) (by simp) (b := true) ⟨fun _ => aw_may1 x y, fun _ => rfl⟩).mono ?_
  intro e w8 hp
  have hp2 : e = .returned (.int .i64 0) ∧ (∃ T' va' xs', LSt w8 B smallG (awS1 x y) T' va' xs' ∧ (∀ k ∈ T', k ∈ [B] ∨ w7.heap.size ≤ k) ∧ ∀ k ∈ T', k < w8.heap.size) ∧ Touch [B] w7 w8 := hp
  obtain ⟨rfl, ⟨T8, va8, xs8, hl8, hT8, hTl8⟩, ht8⟩ := hp2
  have HL8 := Lib.hid hl8
  have HT8 := Lib.hid hT8
  have HTL8 := Lib.hid hTl8
  have HZ8 := Lib.hid ((ht8.block _ HZlt.out (by simp; omega)).trans HZ7.out)
  have hBw : w.heap.size ≤ B := Nat.le_trans HG1.out.size HB.out
  have HG8 := Lib.hid (show Grow w w8 from Below.trans HG7.out (ht8.below HG7.out.size (by simpa using hBw)))
  clear hp hl8 hT8 hTl8 ht8 hs7 hg7 hl7 h56 h67 hlt2
  go_upto_region 7 with (first | (refine wpList_load_row rfl 33 _ rfl (w5.heap.size + 1 + 1) rfl 33 (bc z).toArray (0, 0) _ HZ8.out Try.underlying33 rfl (HSB z HZl.out).out ?_) | (refine wpList_build_copy rfl _ _ rfl 90 z HZl.out rfl rfl ?_) | (refine wpList_bs_see1 rfl _ rfl (90, z) HC3.out rfl ?_; intro w9 g9 hs9 hg9 hl9))
  have HG9 := Lib.hid (show Grow w8 (w9.alloc (.cells #[.int .i64 91] 3)) from hg9.trans (Grow.alloc _ _))
  have h89 := hg9.size
  have HLT9 := Lib.hid (show w9.heap.size < (w9.alloc (.cells #[.int .i64 91] 3)).heap.size by simp)
  have HR9 := Lib.hid (icsee_one w9 91 (HIO.out 91 (by omega) (by omega)) (w9.alloc (.cells #[.int .i64 91] 3)) w9.heap.size (heap_alloc_last _ _))
  have HS9 := Lib.hid (hs9.grow (Grow.alloc w9 (.cells #[.int .i64 91] 3)))
  have HN9 := Lib.hid (show ∀ k, (Value.slice (some ⟨w9.heap.size, 0, none⟩) 1 1).ownBlock = some k → ([91] : List Int) ≠ [] → k ∉ T8 ∧ k < (w9.alloc (.cells #[.int .i64 91] 3)).heap.size from fun k hk _ => by
    cases hk
    exact ⟨fun hm => by have h1 : w9.heap.size < w8.heap.size := HTL8.out _ hm; omega, HLT9.out⟩)
  have HZ9 := Lib.hid ((HG9.out.block _ (Array.getElem?_eq_some_iff.1 HZ8.out).1).trans HZ8.out)
  clear hs9 hg9 hl9
  generalize hW9 : w9.alloc (.cells #[.int .i64 91] 3) = W9 at *
  clear hW9
  refine (add_ok (seq := 8) (cs := [(90, z)]) (rs := [91]) (HL8.out.grow HG9.out) (fun k hk => Nat.lt_of_lt_of_le (HTL8.out k hk) HG9.out.size) small_may HS9.out HR9.out (by simp) (by simp) (by omega) (HIO.out 6 (by omega) (by omega)) (HIO.out 4 (by omega) (by omega)) HN9.out (by show 2 ≤ 1000; omega) (b := true) ⟨fun _ => aw_may2 x y z, fun _ => rfl⟩).mono ?_
  intro e w10 hp
  have hp2 : e = .returned (.int .i64 0) ∧ (∃ T' va' xs', LSt w10 B smallG (awS2 x y z) T' va' xs' ∧ (∀ k ∈ T', k ∈ T8 ∨ W9.heap.size ≤ k) ∧ ∀ k ∈ T', k < w10.heap.size) ∧ Touch T8 W9 w10 := hp
  obtain ⟨rfl, ⟨T10, va10, xs10, hl10, hT10, hTl10⟩, ht10⟩ := hp2
  have HZ10 := Lib.hid ((ht10.block _ (Array.getElem?_eq_some_iff.1 HZ9.out).1 (fun hm => by
    rcases HT8.out _ hm with h1 | h1
    · have := List.mem_singleton.1 h1; have := HLT.out; omega
    · have := HZlt.out; omega)).trans HZ9.out)
  have HL10 := Lib.hid hl10
  have HG10 := Lib.hid (show Grow w w10 from Below.trans (HG8.out.trans HG9.out) (ht10.below (HG8.out.trans HG9.out).size (fun k hk => by
    rcases HT8.out _ hk with h1 | h1
    · rw [List.mem_singleton.1 h1]; exact hBw
    · exact Nat.le_trans HG7.out.size h1)))
  clear hp hl10 hT10 hTl10 ht10 h89
  have hz57 := zero57
  have HSz := Lib.hid (ssize (s := ⟨1, 90, z, 0, 0, 0⟩) HZl.out)
  have HS0 := Lib.hid (ssize0 (s := ⟨1, 90, z, 0, 0, 0⟩) HZl.out)
  have HO := Lib.hid (sone ⟨1, 90, z, 0, 0, 0⟩)
  have HNT := Lib.hid (snth ⟨1, 90, z, 0, 0, 0⟩)
  have HYR := Lib.hid (show ∀ j v, (bc z)[j]? = some v → (scell ⟨1, 90, z, 0, 0, 0⟩).toArray[2 + j]? = some v from fun j v hj => by
    rw [List.getElem?_toArray]
    show (Value.int .u8 _ :: Value.int .i64 _ :: (bc z ++ tail3 0 0 0))[2 + j]? = _
    rw [Nat.add_comm, List.getElem?_cons_succ, List.getElem?_cons_succ, List.getElem?_append_left (List.getElem?_eq_some_iff.1 hj).1]
    exact hj)
  generalize (scell zeroS).toArray = Z57 at *
  go_wp2_with fail
  refine (next_ok HL10.out 0 9 0).mono ?_
  intro e w11 hp
  rw [aw_next] at hp
  obtain ⟨rfl, hg11⟩ := hp
  generalize (scell ⟨1, 90, z, 0, 0, 0⟩).toArray = Y at *
  have HL11 := Lib.hid (HL10.out.grow hg11)
  have HZ11 := Lib.hid ((hg11.block _ (Array.getElem?_eq_some_iff.1 HZ10.out).1).trans HZ10.out)
  have HG11 := Lib.hid (HG10.out.trans hg11)
  clear hg11
  go_upto_region 8 with (refine wpList_store_row rfl 57 _ _ rfl w11.heap.size Y rfl rfl 57 Z57 (heap_alloc_last _ _) HSz.out HS0.out HO.out ?_)
  have HY12 := Lib.hid (show ((w11.alloc (.cells Z57 57)).setRow w11.heap.size Y).heap[w11.heap.size]? = some (.cells Y 57) from setRow_heap _ _ _ _ _ _ (heap_alloc_last _ _))
  have HG12 := Lib.hid (show Grow w11 ((w11.alloc (.cells Z57 57)).setRow w11.heap.size Y) from below_setRow (Grow.alloc _ _) (Nat.le_refl _) _)
  generalize (w11.alloc (.cells Z57 57)).setRow w11.heap.size Y = w12 at *
  have HL12 := Lib.hid (HL11.out.grow HG12.out)
  have HZ12 := Lib.hid ((HG12.out.block _ (Array.getElem?_eq_some_iff.1 HZ11.out).1).trans HZ11.out)
  go_wp2_with fail
  refine (get_ok HL12.out 90 (HIO.out 90 (by omega) (by omega))).mono ?_
  intro e w13 hp
  rw [aw_get] at hp
  have hp2 : e = .returned (.tuple #[.agg (bc z).toArray, .bool true]) ∧ Grow w12 w13 := hp
  obtain ⟨rfl, hg13⟩ := hp2
  have HL13 := Lib.hid (HL12.out.grow hg13)
  have HZ13 := Lib.hid ((hg13.block _ (Array.getElem?_eq_some_iff.1 HZ12.out).1).trans HZ12.out)
  have HY13 := Lib.hid ((hg13.block _ (Array.getElem?_eq_some_iff.1 HY12.out).1).trans HY12.out)
  have HG13 := Lib.hid (show Grow w w13 from HG11.out.trans (HG12.out.trans hg13))
  clear hp hg13
  go_upto_region 9 with (refine wpList_store_row rfl 33 _ _ rfl w13.heap.size (bc z).toArray rfl rfl 33 Z (heap_alloc_last _ _) (HSB z HZl.out).out (HSE z HZl.out).out (HBO z).out ?_)
  have HX14 := Lib.hid (show ((w13.alloc (.cells Z 33)).setRow w13.heap.size (bc z).toArray).heap[w13.heap.size]? = some (.cells (bc z).toArray 33) from setRow_heap _ _ _ _ _ _ (heap_alloc_last _ _))
  have HG14 := Lib.hid (show Grow w13 ((w13.alloc (.cells Z 33)).setRow w13.heap.size (bc z).toArray) from below_setRow (Grow.alloc _ _) (Nat.le_refl _) _)
  generalize (w13.alloc (.cells Z 33)).setRow w13.heap.size (bc z).toArray = w14 at *
  have HL14 := Lib.hid (HL13.out.grow HG14.out)
  have HZ14 := Lib.hid ((HG14.out.block _ (Array.getElem?_eq_some_iff.1 HZ13.out).1).trans HZ13.out)
  have HY14 := Lib.hid ((HG14.out.block _ (Array.getElem?_eq_some_iff.1 HY13.out).1).trans HY13.out)
  have k0 : w14.cell? ⟨w11.heap.size, 0, none⟩ = some (.int .u8 1) := (cell_at HY14.out 0).trans HNT.out.1
  have k1 : w14.cell? ⟨w11.heap.size, 1, none⟩ = some (.int .i64 90) := (cell_at HY14.out 1).trans HNT.out.2
  have HR14 := Lib.hid (show w14.rangeAt w11.heap.size 2 (bc z) from fun j v hj => by rw [cell_at HY14.out]; exact HYR.out j v hj)
  have hq1 : ∀ w, (binOp .eql 33 (.agg (bc z).toArray) (.agg (bc z).toArray)).run Try.prog w = .ok (.bool true) w := fun w => by rw [eqlBlk z z HZl.out HZl.out, decide_eq_true rfl]
  have hq2 : ∀ x y w, (eqGuard .eql 33 x y (.agg (bc z).toArray) (.agg (bc z).toArray)).run Try.prog w = .ok () w := fun x y w => gB _ x y _ _ w
  have HLbz := Lib.hid (show (Try.prog.info? 33).map (·.size) = some (bc z).length by rw [bc_length, HZl.out]; exact size32)
  have HSzB := HSB z HZl.out
  clear hz hz57 HSB HSE HBO HA0 HA1 HA2 HF0 HF1 HF2 HC1 HC2 HC3 HZS HG1 HG2 HG5 HG6 HG7 HG8 HG9 HG10 HG11 HG12 HL2 HL8 HL10 HL11 HL12 HL13 HZ7 HZ8 HZ9 HZ10 HZ11 HZ12 HZ13 HY12 HY13 HY14 HT8 HTL8 HLT HZlt HLT9 HR9 HS9 HN9 HSz HS0 HO HNT HYR HB
  generalize hbz : (bc z).toArray = BZ at *
  have HBZ := Lib.hid hbz
  clear hbz
  have HLF := Lib.hid (show ∀ w, Grow w14 w → Calls Try.prog 17 #[.pointer (some ⟨B, 0, none⟩)] w fun e w' => ∃ v, e = .returned v ∧ ISee w' v [90] ∧ Grow w w' from fun w hg => (left_ok (HL14.out.grow hg)).mono fun e w' h => by
    obtain ⟨v15, zs15, he, hs15, hr15, _, hg15, _⟩ := h
    exact ⟨v15, he, by rw [aw_rise hr15] at hs15; exact hs15, hg15⟩)
  have hs8 := World.block_lt_of_cell? w14 _ k0
  refine awake_reg9 B (w5.heap.size + 1 + 1) w11.heap.size w13.heap.size (bc z) BZ w14 HBZ HZ14 HX14 (Lib.hid ⟨hs8, HR14.out⟩) (Lib.hid ⟨hs8, k0⟩) (Lib.hid ⟨hs8, k1⟩) HLbz HSzB hq1 hq2 HLF _ _ _ _ _ _ _ _ _ _ _ _ _ _ _ _ _ _ _ _ _ _ _ _ _ _ _ _ _ _ _ _ _ _ _ _ _ _ _ _ _ _ _ _ _ _ _ _ _ _ _ _ _ _ _ _ _ _ _ _ _ _ _ _ _ _ _ _ _ _ _ _ _ _ _ _ _ _ (Lib.hid ?hk9)
  intro u48 u49 u50 u51 u52 u53 u54 u55 u56 u57 u58 u59 u60 u61 u62 u63 u64 u65 u66 u67 u68 u69 u70 u71 u72 u73 u74 u75 u76 u77 u78 u79 u80 u81 u82 u83 w16 hg16
  have HG16 := Lib.hid (show Grow w w16 from HG13.out.trans (HG14.out.trans hg16))
  clear hg16
  go_wp2_with fail
  go_ret
  exact ⟨rfl, HG16.out⟩
#print axioms awake_ok
end Go.Proofs.Ytokehhegomiciaa
