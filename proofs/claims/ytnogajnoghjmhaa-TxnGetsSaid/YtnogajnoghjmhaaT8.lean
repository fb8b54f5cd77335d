/- Put, Order, Forget. -/
import Derived.Test.YtnogajnoghjmhaaT8a
set_option linter.unusedVariables false
set_option linter.unusedSimpArgs false
namespace Go.Proofs.Ytnogajnoghjmhaa
open Go.RowKit Go.Maps

theorem TC.kept {w w' : World} {B : Nat} {a : PA} {N seq : Nat} {s : PS} (h : TC w B a N seq s) {T : List Nat} (ht : Touch T w w') (hn : ∀ i ∈ B :: a.ids, i ∉ T) : TC w' B a N seq s :=
  ⟨(ht.block B (Array.getElem?_eq_some_iff.1 h.obj).1 (hn B (by simp))).trans h.obj, h.p.kept ht (fun i hi => hn i (List.mem_cons_of_mem _ hi)), h.nd⟩
theorem TC.mono {w : World} {B : Nat} {a : PA} {N M seq : Nat} {s : PS} (h : TC w B a N seq s) (hm : N ≤ M) : TC w B a M seq s := ⟨h.obj, h.p.mono hm, h.nd⟩
theorem TO.kept {w w' : World} {B : Nat} {a : PA} {tb : Nat} {o : PA} {N seq : Nat} {cr rv : Int} {s q : PS} {did : List (Int × Unit)} (h : TO w B a tb o N seq cr rv s q did) {T : List Nat} (ht : Touch T w w') (hn : ∀ i ∈ B :: a.ids ++ tb :: o.ids, i ∉ T) : TO w' B a tb o N seq cr rv s q did :=
  ⟨(ht.block B (Array.getElem?_eq_some_iff.1 h.obj).1 (hn B (by simp))).trans h.obj, h.p.kept ht (fun i hi => hn i (by simp; exact .inr (.inl hi))), h.t.kept ht (hn tb (by simp)), h.q.kept ht (fun i hi => hn i (by simp; exact .inr (.inr (.inr hi)))), h.nd⟩
theorem TO.mono {w : World} {B : Nat} {a : PA} {tb : Nat} {o : PA} {N M seq : Nat} {cr rv : Int} {s q : PS} {did : List (Int × Unit)} (h : TO w B a tb o N seq cr rv s q did) (hm : N ≤ M) : TO w B a tb o M seq cr rv s q did := ⟨h.obj, h.p.mono hm, h.t.mono hm, h.q.mono hm, h.nd⟩
theorem Touch.into {S T : List Nat} {a b : World} (h : Touch S a b) (hs : ∀ i ∈ S, i ∈ T) : Touch T a b := (Touch.refl T a).trans h (fun i hi => .inl (hs i hi))
theorem nd_ne {l : List Nat} (h : l.Nodup) (i j : Nat) {x y : Nat} (hi : l[i]? = some x) (hj : l[j]? = some y) (hij : i ≠ j := by decide) : x ∉ [y] := by
  intro hm
  obtain ⟨a, a2⟩ := List.getElem?_eq_some_iff.1 hi
  obtain ⟨b, b2⟩ := List.getElem?_eq_some_iff.1 hj
  have e := List.mem_singleton.1 hm
  rw [← a2, ← b2] at e
  rcases Nat.lt_or_gt_of_ne hij with c | c
  · exact List.pairwise_iff_getElem.1 h i j a b c e
  · exact List.pairwise_iff_getElem.1 h j i b a c e.symm
theorem nd_o {B tb : Nat} {a o : PA} (h : (B :: a.ids ++ tb :: o.ids).Nodup) (j : Nat) {y : Nat} (hj : (B :: a.ids ++ tb :: o.ids)[j]? = some y) (hl : j < 7 := by decide) : ∀ i ∈ o.ids, i ∉ [y] := by
  intro i hi
  simp only [PA.ids, List.mem_cons, List.not_mem_nil, or_false] at hi
  rcases hi with rfl | rfl | rfl | rfl | rfl
  · exact nd_ne h 7 j rfl hj (by omega)
  · exact nd_ne h 8 j rfl hj (by omega)
  · exact nd_ne h 9 j rfl hj (by omega)
  · exact nd_ne h 10 j rfl hj (by omega)
  · exact nd_ne h 11 j rfl hj (by omega)
abbrev AskIs (v : Value) (b z : Int) (w : World) : Prop := Calls Try.prog 33 #[v, .int .i64 b] w fun e w' => e = .returned (.int .i64 z) ∧ w = w'
theorem put_err {w : World} {v : Value} {b z : Int} (hz : z ≠ 0) (hA : ∀ W, Touch [] w W → AskIs v b z W) {x : Blk} (hx : x.length = 256) : Calls Try.prog 10 #[v, .int .i64 b, .agg (bc x).toArray] w fun e w' => e = .returned (.int .i64 z) ∧ Touch [] w w' := by
  have d0 : (z == 0) = false := by simpa using hz
  have HA := Lib.hid hA
  clear hA
  go_enter Try.func10, Try.ntmps10
  go_wp2_with fail
  refine (HA.out _ (Touch.alloc [] _ _)).mono ?_
  rintro e w' ⟨rfl, rfl⟩
  go_wp2_with fail
  go_ret
  exact ⟨rfl, Touch.alloc [] _ _⟩
theorem order_err {w : World} {v : Value} {b z : Int} (hz : z ≠ 0) (hA : AskIs v b z w) : Calls Try.prog 17 #[v, .int .i64 b] w fun e w' => e = .returned (.int .i64 z) ∧ w = w' := by
  have d0 : (z == 0) = false := by simpa using hz
  have HA := Lib.hid hA
  clear hA
  go_enter Try.func17, Try.ntmps17
  go_wp2_with fail
  refine HA.out.mono ?_
  rintro e w' ⟨rfl, rfl⟩
  go_wp2_with fail
  go_ret
  exact ⟨rfl, rfl⟩
theorem forget_err {w : World} {v : Value} {b z : Int} (hz : z ≠ 0) (hA : AskIs v b z w) (r : Bool) : Calls Try.prog 18 #[v, .int .i64 b, .bool r] w fun e w' => e = .returned (.int .i64 z) ∧ w = w' := by
  have d0 : (z == 0) = false := by simpa using hz
  have HA := Lib.hid hA
  clear hA
  go_enter Try.func18, Try.ntmps18
  go_wp2_with fail
  refine HA.out.mono ?_
  rintro e w' ⟨rfl, rfl⟩
  go_wp2_with fail
  go_ret
  exact ⟨rfl, rfl⟩
theorem TO.ask {w : World} {B : Nat} {a : PA} {tb : Nat} {o : PA} {N seq : Nat} {cr rv : Int} {s q : PS} {did : List (Int × Unit)} (h : TO w B a tb o N seq cr rv s q did) (b : Int) : AskIs (.pointer (some ⟨B, 0, none⟩)) b (if b < 0 then 2 else 0) w := ask_is h.handle
set_option maxRecDepth 100000 in
set_option maxHeartbeats 2000000 in
theorem put_full {w : World} {B : Nat} {a : PA} {tb : Nat} {o : PA} {N seq : Nat} {cr rv : Int} {s q : PS} {did : List (Int × Unit)} (h : TO w B a tb o N seq cr rv s q did) {b : Int} (hb : IntOk b) (h0 : 0 ≤ b) {x : Blk} (hx : x.length = 256) (hn : b ∉ keysA did) (hl : cr ≤ did.length) : Calls Try.prog 10 #[.pointer (some ⟨B, 0, none⟩), .int .i64 b, .agg (bc x).toArray] w fun e w' => e = .returned (.int .i64 140) ∧ Touch [] w w' := by
  have d1 : decide (cr ≤ (did.length : Int)) = true := decide_eq_true hl
  have hsn := storeNone
  have HH := Lib.hid h
  have HA := Lib.hid (fun W (hW : Touch [] w W) => (h.kept hW (by simp)).ask b)
  have hneg : ¬ b < 0 := by omega
  simp only [if_neg hneg] at HA
  clear h
  go_enter Try.func10, Try.ntmps10
  go_wp2_with fail
  refine (HA.out _ (Touch.alloc [] _ _)).mono ?_
  rintro e w' ⟨rfl, rfl⟩
  have HW := Lib.hid (HH.out.kept (Touch.alloc [] w (.cells (bc x).toArray 33)) (by simp))
  have HTW := Lib.hid (Touch.alloc [] w (.cells (bc x).toArray 33))
  have HBX := Lib.hid (show w.heap.size < (w.alloc (.cells (bc x).toArray 33)).heap.size ∧ (w.alloc (.cells (bc x).toArray 33)).heap[w.heap.size]? = some (.cells (bc x).toArray 33) from ⟨by simp, heap_alloc_last _ _⟩)
  generalize (w.alloc (.cells (bc x).toArray 33)) = W at *
  have c8 : W.cell? ⟨B, 8, none⟩ = some (.map (some tb)) := cell_at HW.out.obj 8
  go_upto_region 5 with (first | (at_lookup; refine wpList_mapLookOkU rfl _ _ rfl tb N did rfl HW.out.t b hb rfl (decide_eq_false hn) ?_))
  have HW1 := Lib.hid (HW.out.kept (Touch.alloc [] W (.cells #[] 73)) (by simp))
  have HTW1 := Lib.hid (HTW.out.trans (Touch.alloc [] W (.cells #[] 73)) (by simp))
  have HBX1 := Lib.hid (show w.heap.size < (W.alloc (.cells #[] 73)).heap.size ∧ (W.alloc (.cells #[] 73)).heap[w.heap.size]? = some (.cells (bc x).toArray 33) from ⟨by have := HBX.out.1; simp; omega, (Below.heap_alloc _ _ _ HBX.out.1).trans HBX.out.2⟩)
  clear c8
  clear HW HTW HBX
  generalize (W.alloc (.cells #[] 73)) = W1 at *
  have c8 : W1.cell? ⟨B, 8, none⟩ = some (.map (some tb)) := cell_at HW1.out.obj 8
  have c6 : W1.cell? ⟨B, 6, none⟩ = some (.int .i64 cr) := cell_at HW1.out.obj 6
  have hlen := (fun n ty => (HW1.out.t.kept (touch_drewN [] _ n) (by simp)).len Try.underlying61 ty)
  go_quiet (fail)
  go_wp2_with fail
  go_ret
  exact ⟨rfl, HTW1.out.trans (touch_drewN [] _ _) (by simp)⟩
set_option maxRecDepth 100000 in
set_option maxHeartbeats 2000000 in
theorem put_old {w : World} {B : Nat} {a : PA} {tb : Nat} {o : PA} {N seq : Nat} {cr rv : Int} {s q : PS} {did : List (Int × Unit)} (h : TO w B a tb o N seq cr rv s q did) {b : Int} (hb : IntOk b) (h0 : 0 ≤ b) (hN : N ≤ 100000) (hsq : seq < 4294967296) {x : Blk} (hx : x.length = 256) (hn : b ∈ keysA did) : Calls Try.prog 10 #[.pointer (some ⟨B, 0, none⟩), .int .i64 b, .agg (bc x).toArray] w fun e w' => e = .returned (.int .i64 0) ∧ TO w' B a tb o (N + 1) seq cr rv ⟨insA s.ch b x, s.od, delA s.fr b, delS s.rv b⟩ q (insA did b ()) ∧ Touch (tb :: a.ids) w w' := by
  have hsn := storeNone
  have HH := Lib.hid h
  have HA := Lib.hid (fun W (hW : Touch [] w W) => (h.kept hW (by simp)).ask b)
  have hneg : ¬ b < 0 := by omega
  simp only [if_neg hneg] at HA
  clear h
  go_enter Try.func10, Try.ntmps10
  go_wp2_with fail
  refine (HA.out _ (Touch.alloc [] _ _)).mono ?_
  rintro e w' ⟨rfl, rfl⟩
  have HW := Lib.hid (HH.out.kept (Touch.alloc [] w (.cells (bc x).toArray 33)) (by simp))
  have HTW := Lib.hid (Touch.alloc [] w (.cells (bc x).toArray 33))
  have HBX := Lib.hid (show w.heap.size < (w.alloc (.cells (bc x).toArray 33)).heap.size ∧ (w.alloc (.cells (bc x).toArray 33)).heap[w.heap.size]? = some (.cells (bc x).toArray 33) from ⟨by simp, heap_alloc_last _ _⟩)
  generalize (w.alloc (.cells (bc x).toArray 33)) = W at *
  have c8 : W.cell? ⟨B, 8, none⟩ = some (.map (some tb)) := cell_at HW.out.obj 8
  go_upto_region 5 with (first | (at_lookup; refine wpList_mapLookOkU rfl _ _ rfl tb N did rfl HW.out.t b hb rfl (decide_eq_true hn) ?_))
  have HW1 := Lib.hid (HW.out.kept (Touch.alloc [] W (.cells #[] 73)) (by simp))
  have HTW1 := Lib.hid (HTW.out.trans (Touch.alloc [] W (.cells #[] 73)) (by simp))
  have HBX1 := Lib.hid (show w.heap.size < (W.alloc (.cells #[] 73)).heap.size ∧ (W.alloc (.cells #[] 73)).heap[w.heap.size]? = some (.cells (bc x).toArray 33) from ⟨by have := HBX.out.1; simp; omega, (Below.heap_alloc _ _ _ HBX.out.1).trans HBX.out.2⟩)
  clear c8
  clear HW HTW HBX
  generalize (W.alloc (.cells #[] 73)) = W1 at *
  have c8 : W1.cell? ⟨B, 8, none⟩ = some (.map (some tb)) := cell_at HW1.out.obj 8
  have c6 : W1.cell? ⟨B, 6, none⟩ = some (.int .i64 cr) := cell_at HW1.out.obj 6
  have hlen := (fun n ty => (HW1.out.t.kept (touch_drewN [] _ n) (by simp)).len Try.underlying61 ty)
  go_quiet (fail)
  have HW2 := Lib.hid (HW1.out.kept (touch_drewN [] _ nq) (by simp))
  have HTW2 := Lib.hid (HTW1.out.trans (touch_drewN [] _ nq) (by simp))
  have HBX2 := Lib.hid (show w.heap.size < (W1.drewN nq).heap.size ∧ (W1.drewN nq).heap[w.heap.size]? = some (.cells (bc x).toArray 33) from HBX1.out)
  clear hlen c8 c6
  clear HW1 HTW1 HBX1
  generalize (W1.drewN nq) = W2 at *
  have c8 : W2.cell? ⟨B, 8, none⟩ = some (.map (some tb)) := cell_at HW2.out.obj 8
  go_upto_region 8 with (first | (at_mapUpdate; refine wpList_mapStore rfl _ _ _ 61 rfl 73 Try.underlying61 tb N did rfl HW2.out.t hN b hb rfl () trivial rfl ?_; intro W3 hm3 ht3))
  have HD := Lib.hid HW2.out.nd
  have HLT := Lib.hid (show w.heap.size ∉ [tb] from fun hm => by have := HH.out.t.lt; have := List.mem_singleton.1 hm; omega)
  clear c8
  have HM3 := Lib.hid hm3
  have HT3 := Lib.hid ht3
  have HO3 := Lib.hid ((ht3.block B (Array.getElem?_eq_some_iff.1 HW2.out.obj).1 (nd_ne HD.out 0 6 rfl rfl)).trans HW2.out.obj)
  have HC3 := Lib.hid (HW2.out.p.ch.kept ht3 (nd_ne HD.out 1 6 rfl rfl))
  have HB3 := Lib.hid (show w.heap.size < W3.heap.size ∧ W3.heap[w.heap.size]? = some (.cells (bc x).toArray 33) from ⟨Nat.lt_of_lt_of_le HBX2.out.1 ht3.size, (ht3.block _ HBX2.out.1 HLT.out).trans HBX2.out.2⟩)
  clear hm3 ht3
  refine put_reg8 B w.heap.size a.c N b x s.ch W3 (Lib.hid ⟨(Array.getElem?_eq_some_iff.1 HO3.out).1, cell_at HO3.out 0⟩) HB3 (Lib.hid (by rw [List.size_toArray, bc_length, hx])) (Lib.hid hx) HC3 hN (Lib.hid hb) _ _ _ _ _ _ _ _ _ _ _ _ _ _ _ _ _ _ _ _ _ _ _ _ _ _ _ _ _ _ _ _ _ _ _ _ _ _ _ _ _ _ _ _ _ _ _ _ _ _ _ _ _ _ _ _ _ _ _ _ _ _ _ _ _ _ _ (Lib.hid ?hk8)
  intro u45 u46 u47 u48 u49 u50 u51 W4 hm4 ht4
  have HM4 := Lib.hid hm4
  have HT4 := Lib.hid ht4
  have HO4 := Lib.hid ((ht4.block B (Array.getElem?_eq_some_iff.1 HO3.out).1 (nd_ne HD.out 0 1 rfl rfl)).trans HO3.out)
  have HF4 := Lib.hid ((HW2.out.p.fr.kept HT3.out (nd_ne HD.out 3 6 rfl rfl)).kept ht4 (nd_ne HD.out 3 1 rfl rfl))
  clear hm4 ht4
  have e2 : W4.cell? ⟨B, 2, none⟩ = some (.map (some a.f)) := cell_at HO4.out 2
  go_upto_region 10 with (first | (at_delete; refine wpList_mapDelete rfl _ _ 61 rfl 73 Try.underlying61 a.f N s.fr rfl HF4.out b hb rfl ?_; intro W5 hm5 ht5))
  have HM5 := Lib.hid hm5
  have HT5 := Lib.hid ht5
  have HO5 := Lib.hid ((ht5.block B (Array.getElem?_eq_some_iff.1 HO4.out).1 (nd_ne HD.out 0 3 rfl rfl)).trans HO4.out)
  have HR5 := Lib.hid (((HW2.out.p.rv.kept HT3.out (nd_ne HD.out 4 6 rfl rfl) (nd_ne HD.out 5 6 rfl rfl)).kept HT4.out (nd_ne HD.out 4 1 rfl rfl) (nd_ne HD.out 5 1 rfl rfl)).kept ht5 (nd_ne HD.out 4 3 rfl rfl) (nd_ne HD.out 5 3 rfl rfl))
  clear hm5 ht5 e2
  refine put_reg10 B a.B a.m N seq b s.rv W5 (Lib.hid ⟨(Array.getElem?_eq_some_iff.1 HO5.out).1, cell_at HO5.out 3⟩) (Lib.hid ⟨(Array.getElem?_eq_some_iff.1 HO5.out).1, cell_at HO5.out 4⟩) HR5 hN (Lib.hid hsq) (Lib.hid hb) h0 _ _ _ _ _ _ _ _ _ _ _ _ _ _ _ _ _ _ _ _ _ _ _ _ _ _ _ _ _ _ _ _ _ _ _ _ _ _ _ _ _ _ _ _ _ _ _ _ _ _ _ _ _ _ _ _ _ _ _ _ _ _ _ _ _ _ _ _ (Lib.hid ?hk10)
  intro u58 u59 u60 u61 u62 u63 u64 u65 u66 u67 u68 W6 hm6 ht6
  have HM6 := Lib.hid hm6
  have HT6 := Lib.hid ht6
  clear hm6 ht6
  go_wp2_with fail
  go_ret
  have h23 := HT3.out
  have h34 := HT4.out
  have h45 := HT5.out
  have h56 := HT6.out
  refine ⟨rfl, ⟨(h56.block B (Array.getElem?_eq_some_iff.1 HO5.out).1 (nd_ne HD.out 0 5 rfl rfl)).trans HO5.out, ⟨(HM4.out.kept h45 (nd_ne HD.out 1 3 rfl rfl)).kept h56 (nd_ne HD.out 1 5 rfl rfl), (((((HW2.out.p.od.kept h23 (nd_ne HD.out 2 6 rfl rfl)).kept h34 (nd_ne HD.out 2 1 rfl rfl)).kept h45 (nd_ne HD.out 2 3 rfl rfl)).kept h56 (nd_ne HD.out 2 5 rfl rfl))).mono (by omega), (HM5.out.kept h56 (nd_ne HD.out 3 5 rfl rfl)).mono (by omega), HM6.out.mono (by omega)⟩, (((HM3.out.kept h34 (nd_ne HD.out 6 1 rfl rfl)).kept h45 (nd_ne HD.out 6 3 rfl rfl)).kept h56 (nd_ne HD.out 6 5 rfl rfl)), ((((HW2.out.q.kept h23 (nd_o HD.out 6 rfl)).kept h34 (nd_o HD.out 1 rfl)).kept h45 (nd_o HD.out 3 rfl)).kept h56 (nd_o HD.out 5 rfl)).mono (by omega), HW2.out.nd⟩, ?_⟩
  exact (((((Touch.refl (tb :: a.ids) w).trans HTW2.out (by simp)).trans h23 (by simp)).trans h34 (by simp [PA.ids])).trans h45 (by simp [PA.ids])).trans h56 (by simp [PA.ids])
set_option maxRecDepth 100000 in
set_option maxHeartbeats 2000000 in
theorem put_new {w : World} {B : Nat} {a : PA} {tb : Nat} {o : PA} {N seq : Nat} {cr rv : Int} {s q : PS} {did : List (Int × Unit)} (h : TO w B a tb o N seq cr rv s q did) {b : Int} (hb : IntOk b) (h0 : 0 ≤ b) (hN : N ≤ 100000) (hsq : seq < 4294967296) {x : Blk} (hx : x.length = 256) (hn : b ∉ keysA did) (hl : (did.length : Int) < cr) : Calls Try.prog 10 #[.pointer (some ⟨B, 0, none⟩), .int .i64 b, .agg (bc x).toArray] w fun e w' => e = .returned (.int .i64 0) ∧ TO w' B a tb o (N + 1) seq cr rv ⟨insA s.ch b x, s.od, delA s.fr b, delS s.rv b⟩ q (insA did b ()) ∧ Touch (tb :: a.ids) w w' := by
  have d1 : decide (cr ≤ (did.length : Int)) = false := decide_eq_false (by omega)
  have hsn := storeNone
  have HH := Lib.hid h
  have HA := Lib.hid (fun W (hW : Touch [] w W) => (h.kept hW (by simp)).ask b)
  have hneg : ¬ b < 0 := by omega
  simp only [if_neg hneg] at HA
  clear h
  go_enter Try.func10, Try.ntmps10
  go_wp2_with fail
  refine (HA.out _ (Touch.alloc [] _ _)).mono ?_
  rintro e w' ⟨rfl, rfl⟩
  have HW := Lib.hid (HH.out.kept (Touch.alloc [] w (.cells (bc x).toArray 33)) (by simp))
  have HTW := Lib.hid (Touch.alloc [] w (.cells (bc x).toArray 33))
  have HBX := Lib.hid (show w.heap.size < (w.alloc (.cells (bc x).toArray 33)).heap.size ∧ (w.alloc (.cells (bc x).toArray 33)).heap[w.heap.size]? = some (.cells (bc x).toArray 33) from ⟨by simp, heap_alloc_last _ _⟩)
  generalize (w.alloc (.cells (bc x).toArray 33)) = W at *
  have c8 : W.cell? ⟨B, 8, none⟩ = some (.map (some tb)) := cell_at HW.out.obj 8
  go_upto_region 5 with (first | (at_lookup; refine wpList_mapLookOkU rfl _ _ rfl tb N did rfl HW.out.t b hb rfl (decide_eq_false hn) ?_))
  have HW1 := Lib.hid (HW.out.kept (Touch.alloc [] W (.cells #[] 73)) (by simp))
  have HTW1 := Lib.hid (HTW.out.trans (Touch.alloc [] W (.cells #[] 73)) (by simp))
  have HBX1 := Lib.hid (show w.heap.size < (W.alloc (.cells #[] 73)).heap.size ∧ (W.alloc (.cells #[] 73)).heap[w.heap.size]? = some (.cells (bc x).toArray 33) from ⟨by have := HBX.out.1; simp; omega, (Below.heap_alloc _ _ _ HBX.out.1).trans HBX.out.2⟩)
  clear c8
  clear HW HTW HBX
  generalize (W.alloc (.cells #[] 73)) = W1 at *
  have c8 : W1.cell? ⟨B, 8, none⟩ = some (.map (some tb)) := cell_at HW1.out.obj 8
  have c6 : W1.cell? ⟨B, 6, none⟩ = some (.int .i64 cr) := cell_at HW1.out.obj 6
  have hlen := (fun n ty => (HW1.out.t.kept (touch_drewN [] _ n) (by simp)).len Try.underlying61 ty)
  go_quiet (fail)
  have HW2 := Lib.hid (HW1.out.kept (touch_drewN [] _ nq) (by simp))
  have HTW2 := Lib.hid (HTW1.out.trans (touch_drewN [] _ nq) (by simp))
  have HBX2 := Lib.hid (show w.heap.size < (W1.drewN nq).heap.size ∧ (W1.drewN nq).heap[w.heap.size]? = some (.cells (bc x).toArray 33) from HBX1.out)
  clear hlen c8 c6
  clear HW1 HTW1 HBX1
  generalize (W1.drewN nq) = W2 at *
  have c8 : W2.cell? ⟨B, 8, none⟩ = some (.map (some tb)) := cell_at HW2.out.obj 8
  go_upto_region 8 with (first | (at_mapUpdate; refine wpList_mapStore rfl _ _ _ 61 rfl 73 Try.underlying61 tb N did rfl HW2.out.t hN b hb rfl () trivial rfl ?_; intro W3 hm3 ht3))
  have HD := Lib.hid HW2.out.nd
  have HLT := Lib.hid (show w.heap.size ∉ [tb] from fun hm => by have := HH.out.t.lt; have := List.mem_singleton.1 hm; omega)
  clear c8
  have HM3 := Lib.hid hm3
  have HT3 := Lib.hid ht3
  have HO3 := Lib.hid ((ht3.block B (Array.getElem?_eq_some_iff.1 HW2.out.obj).1 (nd_ne HD.out 0 6 rfl rfl)).trans HW2.out.obj)
  have HC3 := Lib.hid (HW2.out.p.ch.kept ht3 (nd_ne HD.out 1 6 rfl rfl))
  have HB3 := Lib.hid (show w.heap.size < W3.heap.size ∧ W3.heap[w.heap.size]? = some (.cells (bc x).toArray 33) from ⟨Nat.lt_of_lt_of_le HBX2.out.1 ht3.size, (ht3.block _ HBX2.out.1 HLT.out).trans HBX2.out.2⟩)
  clear hm3 ht3
  refine put_reg8 B w.heap.size a.c N b x s.ch W3 (Lib.hid ⟨(Array.getElem?_eq_some_iff.1 HO3.out).1, cell_at HO3.out 0⟩) HB3 (Lib.hid (by rw [List.size_toArray, bc_length, hx])) (Lib.hid hx) HC3 hN (Lib.hid hb) _ _ _ _ _ _ _ _ _ _ _ _ _ _ _ _ _ _ _ _ _ _ _ _ _ _ _ _ _ _ _ _ _ _ _ _ _ _ _ _ _ _ _ _ _ _ _ _ _ _ _ _ _ _ _ _ _ _ _ _ _ _ _ _ _ _ _ (Lib.hid ?hk8)
  intro u45 u46 u47 u48 u49 u50 u51 W4 hm4 ht4
  have HM4 := Lib.hid hm4
  have HT4 := Lib.hid ht4
  have HO4 := Lib.hid ((ht4.block B (Array.getElem?_eq_some_iff.1 HO3.out).1 (nd_ne HD.out 0 1 rfl rfl)).trans HO3.out)
  have HF4 := Lib.hid ((HW2.out.p.fr.kept HT3.out (nd_ne HD.out 3 6 rfl rfl)).kept ht4 (nd_ne HD.out 3 1 rfl rfl))
  clear hm4 ht4
  have e2 : W4.cell? ⟨B, 2, none⟩ = some (.map (some a.f)) := cell_at HO4.out 2
  go_upto_region 10 with (first | (at_delete; refine wpList_mapDelete rfl _ _ 61 rfl 73 Try.underlying61 a.f N s.fr rfl HF4.out b hb rfl ?_; intro W5 hm5 ht5))
  have HM5 := Lib.hid hm5
  have HT5 := Lib.hid ht5
  have HO5 := Lib.hid ((ht5.block B (Array.getElem?_eq_some_iff.1 HO4.out).1 (nd_ne HD.out 0 3 rfl rfl)).trans HO4.out)
  have HR5 := Lib.hid (((HW2.out.p.rv.kept HT3.out (nd_ne HD.out 4 6 rfl rfl) (nd_ne HD.out 5 6 rfl rfl)).kept HT4.out (nd_ne HD.out 4 1 rfl rfl) (nd_ne HD.out 5 1 rfl rfl)).kept ht5 (nd_ne HD.out 4 3 rfl rfl) (nd_ne HD.out 5 3 rfl rfl))
  clear hm5 ht5 e2
  refine put_reg10 B a.B a.m N seq b s.rv W5 (Lib.hid ⟨(Array.getElem?_eq_some_iff.1 HO5.out).1, cell_at HO5.out 3⟩) (Lib.hid ⟨(Array.getElem?_eq_some_iff.1 HO5.out).1, cell_at HO5.out 4⟩) HR5 hN (Lib.hid hsq) (Lib.hid hb) h0 _ _ _ _ _ _ _ _ _ _ _ _ _ _ _ _ _ _ _ _ _ _ _ _ _ _ _ _ _ _ _ _ _ _ _ _ _ _ _ _ _ _ _ _ _ _ _ _ _ _ _ _ _ _ _ _ _ _ _ _ _ _ _ _ _ _ _ _ (Lib.hid ?hk10)
  intro u58 u59 u60 u61 u62 u63 u64 u65 u66 u67 u68 W6 hm6 ht6
  have HM6 := Lib.hid hm6
  have HT6 := Lib.hid ht6
  clear hm6 ht6
  go_wp2_with fail
  go_ret
  have h23 := HT3.out
  have h34 := HT4.out
  have h45 := HT5.out
  have h56 := HT6.out
  refine ⟨rfl, ⟨(h56.block B (Array.getElem?_eq_some_iff.1 HO5.out).1 (nd_ne HD.out 0 5 rfl rfl)).trans HO5.out, ⟨(HM4.out.kept h45 (nd_ne HD.out 1 3 rfl rfl)).kept h56 (nd_ne HD.out 1 5 rfl rfl), (((((HW2.out.p.od.kept h23 (nd_ne HD.out 2 6 rfl rfl)).kept h34 (nd_ne HD.out 2 1 rfl rfl)).kept h45 (nd_ne HD.out 2 3 rfl rfl)).kept h56 (nd_ne HD.out 2 5 rfl rfl))).mono (by omega), (HM5.out.kept h56 (nd_ne HD.out 3 5 rfl rfl)).mono (by omega), HM6.out.mono (by omega)⟩, (((HM3.out.kept h34 (nd_ne HD.out 6 1 rfl rfl)).kept h45 (nd_ne HD.out 6 3 rfl rfl)).kept h56 (nd_ne HD.out 6 5 rfl rfl)), ((((HW2.out.q.kept h23 (nd_o HD.out 6 rfl)).kept h34 (nd_o HD.out 1 rfl)).kept h45 (nd_o HD.out 3 rfl)).kept h56 (nd_o HD.out 5 rfl)).mono (by omega), HW2.out.nd⟩, ?_⟩
  exact (((((Touch.refl (tb :: a.ids) w).trans HTW2.out (by simp)).trans h23 (by simp)).trans h34 (by simp [PA.ids])).trans h45 (by simp [PA.ids])).trans h56 (by simp [PA.ids])
end Go.Proofs.Ytnogajnoghjmhaa
