/- cache: Read: the walk. -/
import Derived.Test.YtmfofobmceflmaaC3
set_option linter.unusedVariables false
set_option linter.unusedSimpArgs false
namespace Go.Proofs.Ytmfofobmceflmaa
open Go.RowKit Go.Maps

theorem zero77a (w : World) : (zeroValue 77).run Try.prog w = .ok (.agg (hcells (zeroB, false)).toArray) w := zero77 w
theorem wpList_lookup_held {w : World} {ops : Array Oper} {rest : List Oper} {o : Oper} {a : Act} {Q : Exit → Act → World → Prop} (hg : o.guard = none) (m x : Operand) (hop : o.op = Op.lookup 55 m x true)
    (bm n N : Nat) (D : DataW Value) (f : Int → Option Hd) (hm : a.eval m = .map (some bm)) (hown : w.ownsMap Try.prog 3 heldElem bm n D) (HM : HMap N D f) (i : Int) (hok : IntOk i) (hx : a.eval x = .int .i64 i) (y : Hd) (hy : (f i).getD (zeroB, false) = y) (t : Bool) (ht : (f i).isSome = t)
    (hK : wpList Try.prog ops Q rest (a.put o.dst (.tuple #[.agg (hcells y).toArray, .bool t])) w) : wpList Try.prog ops Q (o :: rest) a w := by
  refine wpList_lookup_own_ok _ hg m x _ hop 3 77 keyInt Try.underlying55 heldElem (zero77 _) (.held (hvv (zeroB, false))) [] (heldElem_mk (zeroB, false) zeroHd) bm n D hm hown _ (ik i) hx (keyOf_ik hok) ?_
  intro v ps hv
  have h1 := HM.look i hv
  rw [hy] at h1
  rw [h1, HM.has i, ht]
  exact hK
theorem hsize {y : Hd} (hy : y.1.length = 256) : (Try.prog.info? 77).map (·.size) = some (hcells y).toArray.size := by rw [List.size_toArray, hcells_length hy]; exact size77
theorem bsize {x : Blk} (hx : x.length = 256) : (Try.prog.info? 32).map (·.size) = some (bc x).toArray.size := by rw [List.size_toArray, bc_length, hx]; exact size32
/-- behind the look at the map: two new blocks, the answer's and what was found -/
structure Found (w : World) (Z : Array Value) (y : Hd) (W : World) : Prop where
  grow : Grow w W
  lt : w.heap.size + 1 < W.heap.size
  zero : W.heap[w.heap.size]? = some (.cells Z 32)
  held : W.heap[w.heap.size + 1]? = some (.cells (hcells y).toArray 77)
theorem found_mk (w : World) (Z Z2 : Array Value) (y : Hd) : Found w Z y (((w.alloc (.cells Z 32)).alloc (.cells Z2 77)).setRow (w.heap.size + 1) (hcells y).toArray) where
  grow := below_setRow (((Below.refl _ _).alloc (Nat.le_refl _) _).alloc (by simp) _) (by omega) _
  lt := by simp
  zero := (setRow_other _ _ _ _ (by omega)).trans (heap_one _ _ _)
  held := setRow_heap _ _ _ _ _ _ (heap_two _ _ _)
set_option maxRecDepth 100000 in
set_option maxHeartbeats 2000000 in
theorem cread_has {w : World} {C B : Nat} {U : List Nat} {n : Nat} {s : CS} (h : IsCache w C B U n s) (b : Nat) (hb : b < s.d.safe.length) (y : Hd) (hy : s.f b = some y) : Calls Try.prog 18 #[.pointer (some ⟨C, 0, none⟩), .int .i64 (b : Int)] w fun e w' => e = .returned (.tuple #[.agg (bc y.1).toArray, .int .i64 0]) ∧ Grow w w' := by
  have HC := Lib.hid (h.grow (Grow.alloc w (.cells (bc zeroB).toArray 32)))
  have HA := Lib.hid (show s.askI b = 0 from if_pos (by omega))
  have hm := (h.elim fun bm h => h.elim fun bp h => h.elim fun S h => h.2.disk.one.2.1)
  have HKB := Lib.hid (show IntOk (b : Int) by unfold IntOk; omega)
  obtain ⟨bm, bp, S, hU, hcp⟩ := HC.out
  have HU := Lib.hid hU
  have HCP := Lib.hid hcp
  obtain ⟨_, c1, _⟩ := hcp.cells
  obtain ⟨D, hown, hmm⟩ := hcp.has
  have HO := Lib.hid hown
  have HM := Lib.hid hmm
  have hz := zero32
  have hz7 := zero77a
  have HYL := Lib.hid (hmm.dom b y hy).2
  have HY := Lib.hid (show (s.f b).getD (zeroB, false) = y by rw [hy]; rfl)
  have HT := Lib.hid (show (s.f b).isSome = true by rw [hy]; rfl)
  have HSY := Lib.hid (hsize HYL.out)
  have HO1 := Lib.hid (all_oneCell_toArray (hcells_one y))
  have HSz := Lib.hid (bsize HYL.out)
  have HBO := Lib.hid (show (bc y.1).toArray.all (·.oneCell') = true from all_oneCell_toArray (bc_one _))
  have HBZ := Lib.hid (show (bc zeroB).toArray.size = (bc y.1).toArray.size by rw [zero_size, List.size_toArray, bc_length, HYL.out])
  have HSO := Lib.hid (show (hcells (zeroB, false)).toArray.size = (hcells y).toArray.size by rw [List.size_toArray, List.size_toArray, hcells_length zeroHd, hcells_length HYL.out])
  have HFD := Lib.hid (found_mk w (bc zeroB).toArray (hcells (zeroB, false)).toArray y)
  have HBL := Lib.hid (show (bc y.1).length = 256 by rw [bc_length]; exact HYL.out)
  generalize (hcells (zeroB, false)).toArray = Z2 at *
  generalize (bc zeroB).toArray = Z at *
  clear h hcp hown hmm hy hU hb
  go_enter Try.func18, Try.ntmps18
  go_wp2_with fail
  refine (cask_any HC.out b).mono ?_
  rintro e w' ⟨rfl, rfl⟩
  rw [HA.out]
  go_upto_region 5 with (first
    | (at_lookup; refine wpList_lookup_held rfl _ _ rfl bm n _ D s.f rfl HO.out HM.out b HKB.out rfl y HY.out true HT.out ?_)
    | (refine wpList_store_row rfl 77 _ _ rfl (w.heap.size + 1) (hcells y).toArray rfl rfl 77 Z2 (heap_two _ _ _) HSY.out HSO.out HO1.out ?_))
  generalize ((w.alloc (.cells Z 32)).alloc (.cells Z2 77)).setRow (w.heap.size + 1) (hcells y).toArray = W2 at *
  obtain ⟨g0, hg0⟩ : ∃ g, g = w.heap.size := ⟨_, rfl⟩
  have HG0 := Lib.hid hg0
  have HZ0 := Lib.hid (show W2.heap[g0]? = some (.cells Z 32) by rw [hg0]; exact HFD.out.zero)
  have HH0 := Lib.hid (show W2.rangeAt (g0 + 1) 0 (bc y.1) by rw [hg0]; exact held_range HFD.out.held)
  have HGF := Lib.hid HFD.out.grow
  rw [← hg0]
  clear hg0 c1
  go_wp2_with (first | (refine wpList_load_mid rfl 32 _ rfl (g0 + 1) 0 rfl (bc y.1) _ HH0.out Try.underlying32 rfl (by rw [HBL.out]; exact size32) ?_) | (refine wpList_store_row rfl 32 _ _ rfl g0 (bc y.1).toArray rfl rfl 32 Z HZ0.out HSz.out HBZ.out HBO.out ?_))
  refine bodyPost_ret (results_row_tmp rfl _ _ g0 32 (bc y.1).toArray (0, 0) _ _ rfl (setRow_heap _ _ _ _ _ _ HZ0.out) Try.underlying32 rfl HSz.out rfl) rfl ⟨rfl, below_setRow HGF.out (by rw [HG0.out]; exact Nat.le_refl _) _⟩
#print axioms cread_has
set_option maxRecDepth 100000 in
set_option maxHeartbeats 4000000 in
theorem cread_new {w : World} {C B : Nat} {U : List Nat} {n : Nat} {s : CS} (h : IsCache w C B U n s) (hn : n ≤ 1000000) (b : Nat) (hb : b < s.d.safe.length) (hy : s.f b = none) (hd : s.d.dead = false) (x : Blk) (hxb : s.d.last[b]? = some x) : Calls Try.prog 18 #[.pointer (some ⟨C, 0, none⟩), .int .i64 (b : Int)] w fun e w' => e = .returned (.tuple #[.agg (bc x).toArray, .int .i64 0]) ∧ IsCache w' C B U (n + 1) { s with f := putF s.f b (x, false) } ∧ Touch U w w' := by
  have HC := Lib.hid (h.grow (Grow.alloc w (.cells (bc zeroB).toArray 32)))
  have HA := Lib.hid (show s.askI b = 0 from if_pos (by omega))
  have hm := (h.elim fun bm h => h.elim fun bp h => h.elim fun S h => h.2.disk.one.2.1)
  have HKB := Lib.hid (show IntOk (b : Int) by unfold IntOk; omega)
  obtain ⟨bm, bp, S, hU, hcp⟩ := HC.out
  have HU := Lib.hid hU
  have HCP := Lib.hid hcp
  obtain ⟨_, c1, _⟩ := hcp.cells
  obtain ⟨D, hown, hmm⟩ := hcp.has
  have HO := Lib.hid hown
  have HM := Lib.hid hmm
  have hz := zero32
  have hz7 := zero77a
  obtain ⟨y0, hy0⟩ : ∃ y0 : Hd, y0 = (zeroB, false) := ⟨_, rfl⟩
  have HY := Lib.hid (show (s.f b).getD (zeroB, false) = y0 by rw [hy, hy0]; rfl)
  have HT := Lib.hid (show (s.f b).isSome = false by rw [hy]; rfl)
  have HY0 := Lib.hid (show y0.1.length = 256 by rw [hy0]; exact zeroHd)
  rw [← hy0] at hz7
  clear hy0
  have HSY := Lib.hid (hsize HY0.out)
  have HO1 := Lib.hid (all_oneCell_toArray (hcells_one y0))
  have hbl : b < s.d.last.length := by rw [hcp.disk.one.2.2]; exact hb
  have hxe : s.d.last[b] = x := by rw [List.getElem?_eq_getElem hbl] at hxb; exact Option.some.inj hxb
  have HX := Lib.hid (show x.length = 256 from hcp.disk.row x (List.mem_of_getElem? hxb))
  have HRD := Lib.hid (fun (wq : World) (hq : IsDisk wq B S s.d) => by have := read_ok hq b hbl hd; rw [hxe] at this; exact this)
  have HSz := Lib.hid (bsize HX.out)
  have HBO := Lib.hid (show (bc x).toArray.all (·.oneCell') = true from all_oneCell_toArray (bc_one _))
  have HBZ := Lib.hid (show (bc zeroB).toArray.size = (bc x).toArray.size by rw [zero_size, List.size_toArray, bc_length, HX.out])
  have HFD := Lib.hid (found_mk w (bc zeroB).toArray (hcells y0).toArray y0)
  have HBH := Lib.hid (built_clean x HX.out)
  have HIN := Lib.hid (show (0 : Int) ≤ (b : Int) ∧ (b : Int) < s.d.safe.length by omega)
  have HKK := Lib.hid (keyOf_ik HKB.out)
  have HCw := Lib.hid h
  have HTA := Lib.hid (Touch.alloc [] w (.cells (bc zeroB).toArray 32))
  generalize (bc zeroB).toArray = Z at *
  clear h hcp hown hmm hy hU hb hbl hxe hxb hd
  go_enter Try.func18, Try.ntmps18
  go_wp2_with fail
  refine (cask_any HC.out b).mono ?_
  rintro e w' ⟨rfl, rfl⟩
  rw [HA.out]
  go_upto_region 5 with (first
    | (at_lookup; refine wpList_lookup_held rfl _ _ rfl bm n _ D s.f rfl HO.out HM.out b HKB.out rfl y0 HY.out false HT.out ?_)
    | (refine wpList_store_row rfl 77 _ _ rfl (w.heap.size + 1) (hcells y0).toArray rfl rfl 77 (hcells y0).toArray (heap_two _ _ _) HSY.out rfl HO1.out ?_))
  generalize ((w.alloc (.cells Z 32)).alloc (.cells (hcells y0).toArray 77)).setRow (w.heap.size + 1) (hcells y0).toArray = W2 at *
  have HC2 := Lib.hid (HCw.out.grow HFD.out.grow)
  obtain ⟨bm2, bp2, S2, hU2, hcp2⟩ := HC2.out
  have hUU := HU.out.symm.trans hU2
  simp only [List.cons.injEq, true_and] at hUU
  obtain ⟨rfl, rfl, rfl⟩ := hUU
  obtain ⟨g0, hg0⟩ : ∃ g, g = w.heap.size := ⟨_, rfl⟩
  have HG0 := Lib.hid hg0
  have HZ0 := Lib.hid (show W2.heap[g0]? = some (.cells Z 32) by rw [hg0]; exact HFD.out.zero)
  have HGF := Lib.hid HFD.out.grow
  have HLT0 := Lib.hid (show g0 < W2.heap.size by have := HFD.out.lt; omega)
  have HCP2 := Lib.hid hcp2
  have c0 := hcp2.cells.1
  rw [← hg0]
  clear hg0 c1 hU2 hcp2 HO HM
  go_upto_region 7 with (fail)
  go_wp2_with fail
  refine (HRD.out _ HCP2.out.disk).mono ?_
  intro e W3 hpost
  obtain ⟨he, hg3⟩ := hpost
  subst he
  have HG3 := Lib.hid hg3
  have HW4 := Lib.hid (show Grow W2 ((W3.alloc (.cells Z 32)).setRow W3.heap.size (bc x).toArray) from below_setRow (Below.alloc hg3 hg3.size _) hg3.size _)
  have HB4 := Lib.hid (show W3.heap.size < ((W3.alloc (.cells Z 32)).setRow W3.heap.size (bc x).toArray).heap.size ∧ ((W3.alloc (.cells Z 32)).setRow W3.heap.size (bc x).toArray).heap[W3.heap.size]? = some (.cells (bc x).toArray 32) from ⟨by simp, setRow_heap _ _ _ _ _ _ (heap_alloc_last _ _)⟩)
  have HLE := Lib.hid (show W2.heap.size ≤ W3.heap.size from hg3.size)
  clear hg3 c0
  go_upto_region 10 with (refine wpList_store_row rfl 32 _ _ rfl W3.heap.size (bc x).toArray rfl rfl 32 Z (heap_alloc_last _ _) HSz.out HBZ.out HBO.out ?_)
  generalize (W3.alloc (.cells Z 32)).setRow W3.heap.size (bc x).toArray = W4 at *
  obtain ⟨BX, hBX⟩ : ∃ BX, BX = W3.heap.size := ⟨_, rfl⟩
  rw [← hBX] at HB4 HLE
  rw [← hBX]
  have HCX := HB4
  clear hBX HB4
  have HCP4 := Lib.hid (HCP2.out.kept (Touch.of_below (S := []) HW4.out) (by simp))
  have HCB := Lib.hid (show C < W4.heap.size ∧ W4.cell? ⟨C, 1, none⟩ = some (.map (some bm)) from ⟨HCP4.out.lt.1, HCP4.out.cells.2.1⟩)
  have HZ4 := Lib.hid (show W4.heap[g0]? = some (.cells Z 32) from (HW4.out.block g0 HLT0.out).trans HZ0.out)
  obtain ⟨D, hown, hmm⟩ := HCP4.out.has
  have HO := Lib.hid hown
  have HM := Lib.hid hmm
  have HTA4 := Lib.hid (show Touch U w W4 from Touch.of_below (HGF.out.trans HW4.out))
  have HL04 := Lib.hid (Nat.lt_of_lt_of_le HLT0.out HW4.out.size)
  clear hown hmm HGF HW4 HZ0
  refine wp_region_facts_tail 7 (by kernel_rfl) (by kernel_rfl) [[], [(0, some 43)], [(1, some 44)], [(2, some 45)], [], [], [(5, some 48)]] [(0, some 43), (1, some 44), (2, some 45), (3, some 46), (4, some 47), (5, some 48), (6, some 49)] (by kernel_rfl) (by kernel_rfl) (by kernel_rfl) (Touch []) (Touch.refl []) (fun _ _ _ h h' => h.trans h' (fun i hi => .inl hi)) [Is (Value.pointer (some ⟨C, 0, none⟩)), Is (Value.pointer (some ⟨C, 0, none⟩)), Is (Value.pointer (some ⟨C, 1, none⟩)), Is (Value.map (some bm)), Is (Value.int .i64 (b : Int)), Is (Value.agg (bc x).toArray), Is (Value.agg (hcells (x, false)).toArray)] rfl ⟨is_stab _ _, is_stab _ _, is_stab _ _, is_stab _ _, is_stab _ _, is_stab _ _, is_stab _ _, trivial⟩ ⟨?o0, ?o1, ?o2, ?o3, ?o4, ?o5, ?o6, trivial⟩ ?_
  case o0 =>
    intro vals wq hRq hpq
    simp only [List.getD_cons_zero, List.getD_cons_succ, canonP]
    simp only [Oper.gives]
    go_simp
    exact ⟨is_mk _ _, (Touch.refl []) _⟩
  case o1 =>
    intro vals wq hRq hpq
    simp only [factsP, List.getD_cons_zero, List.getD_cons_succ] at hpq
    have f0 := hpq.1
    replace hpq := hpq.2
    clear hpq
    replace f0 : vals 0 = _ := f0
    simp only [List.getD_cons_zero, List.getD_cons_succ, canonP, f0]
    clear f0
    simp only [Oper.gives]
    go_simp
    exact ⟨is_mk _ _, Touch.refl _ _⟩
  case o2 =>
    intro vals wq hRq hpq
    simp only [factsP, List.getD_cons_zero, List.getD_cons_succ] at hpq
    have f1 := hpq.1
    replace hpq := hpq.2
    clear hpq
    replace f1 : vals 1 = _ := f1
    simp only [List.getD_cons_zero, List.getD_cons_succ, canonP, f1]
    clear f1
    simp only [Oper.gives]
    go_simp
    exact ⟨is_mk _ _, Touch.refl _ _⟩
  case o3 =>
    intro vals wq hRq hpq
    simp only [factsP, List.getD_cons_zero, List.getD_cons_succ] at hpq
    have f2 := hpq.1
    replace hpq := hpq.2
    clear hpq
    replace f2 : vals 2 = _ := f2
    simp only [List.getD_cons_zero, List.getD_cons_succ, canonP, f2]
    clear f2
    have hcc : wq.cell? ⟨C, 1, none⟩ = some (.map (some bm)) := (Touch.cell ((Touch.drew [] _).trans hRq (by simp)) HCB.out.1 (by simp)).trans HCB.out.2
    simp only [Oper.gives]
    go_simp
    exact ⟨is_mk _ _, Touch.refl _ _⟩
  case o4 =>
    intro vals wq hRq hpq
    simp only [List.getD_cons_zero, List.getD_cons_succ, canonP]
    simp only [Oper.gives]
    go_simp
    exact ⟨is_mk _ _, (Touch.refl []) _⟩
  case o5 =>
    intro vals wq hRq hpq
    simp only [List.getD_cons_zero, List.getD_cons_succ, canonP]
    have hbx : wq.heap[BX]? = some (.cells (bc x).toArray 32) := (Touch.block ((Touch.drew [] _).trans hRq (by simp)) BX HCX.out.1 (by simp)).trans HCX.out.2
    exact gives_load_row 32 _ rfl BX rfl 32 (bc x).toArray (0, 0) _ hbx Try.underlying32 rfl HSz.out ⟨is_mk _ _, Touch.refl _ _⟩
  case o6 =>
    intro vals wq hRq hpq
    simp only [factsP, List.getD_cons_zero, List.getD_cons_succ] at hpq
    have f5 := hpq.1
    replace hpq := hpq.2
    clear hpq
    replace f5 : vals 5 = _ := f5
    simp only [List.getD_cons_zero, List.getD_cons_succ, canonP, f5]
    clear f5
    exact gives_build 77 _ rfl (hcells (x, false)).toArray (by simp only [List.map_toArray, List.map_cons, List.map_nil]; exact HBH.out) ⟨is_mk _ _, Touch.refl _ _⟩
  intro vals wz hRwz hfwz
  simp only [AllFacts] at hfwz
  have g0 := hfwz.1
  replace hfwz := hfwz.2
  have g1 := hfwz.1
  replace hfwz := hfwz.2
  have g2 := hfwz.1
  replace hfwz := hfwz.2
  have g3 := hfwz.1
  replace hfwz := hfwz.2
  have g4 := hfwz.1
  replace hfwz := hfwz.2
  have g5 := hfwz.1
  replace hfwz := hfwz.2
  have g6 := hfwz.1
  replace hfwz := hfwz.2
  clear hfwz
  replace g0 : vals 0 = _ := g0
  replace g1 : vals 1 = _ := g1
  replace g2 : vals 2 = _ := g2
  replace g3 : vals 3 = _ := g3
  replace g4 : vals 4 = _ := g4
  replace g5 : vals 5 = _ := g5
  replace g6 : vals 6 = _ := g6
  simp only [List.drop_succ_cons, List.drop_zero]
  simp only [canonP, Act.put, List.setIfInBounds_toArray, List.set_cons_succ, List.set_cons_zero, g0, g1, g2, g3, g4, g5, g6]
  clear g0 g1 g2 g3 g4 g5 g6
  have HTW := Lib.hid ((Touch.drew [] W4).trans hRwz (by simp))
  clear hRwz
  refine wpList_mapUpdate_in _ rfl _ _ _ 55 rfl 3 77 keyInt Try.underlying55 _ bm n D rfl (ownsMap_touch HO.out HTW.out (by simp)) (by unfold maxLen; omega) _ _ (ik b) rfl rfl HKK.out _ [] (heldElem_mk (x, false) HX.out) ?_
  intro w1 hown1 hturn1
  have hT1 : Touch [bm] W4 w1 := (HTW.out.mono (by simp)).trans (Touch.grown (S := [bm]) hturn1.grown (fun k e => by cases e; simp)) (fun i hi => .inl hi)
  have HF := Lib.hid (show IsCache w1 C B U (n + 1) { s with f := putF s.f b (x, false) } from ⟨bm, bp, S, HU.out, (HCP4.out.kept HTW.out (by simp)).turned (Nat.le_succ _) hturn1.grown hown1 (HM.out.put HO.out.isMap HIN.out HX.out)⟩)
  have hmU : bm ∈ U := by rw [HU.out]; simp
  have HFT := Lib.hid (show Touch U w w1 from HTA4.out.trans hT1 (fun i hi => .inl (by rw [List.mem_singleton.1 hi]; exact hmU)))
  have hne : ∀ {g : Nat} {cs : Array Value} {t : TypeId}, W4.heap[g]? = some (.cells cs t) → g ∉ [bm] := fun {g cs t} hg hm => by
    obtain ⟨es, clock, hb, _⟩ := HO.out
    rw [List.mem_singleton.1 hm, hb] at hg; cases hg
  have HX1 := Lib.hid ((hT1.block BX HCX.out.1 (hne HCX.out.2)).trans HCX.out.2)
  have HZ1 := Lib.hid ((hT1.block g0 HL04.out (hne HZ4.out)).trans HZ4.out)
  have HGU := Lib.hid (show g0 ∉ U from fun hm => by have := HCw.out.lt _ hm; have := HG0.out; omega)
  clear hown1 hturn1 hT1 hmU hne
  go_wp2_with (first | (refine wpList_load_row rfl 32 _ rfl BX rfl 32 (bc x).toArray (0, 0) _ HX1.out Try.underlying32 rfl HSz.out ?_) | (refine wpList_store_row rfl 32 _ _ rfl g0 (bc x).toArray rfl rfl 32 Z HZ1.out HSz.out HBZ.out HBO.out ?_))
  have htr : Touch [g0] w1 (w1.setRow g0 (bc x).toArray) := ⟨rfl, rfl, rfl, by simp, fun k _ hn => setRow_other _ _ _ _ (by simpa using hn)⟩
  refine bodyPost_ret (results_row_tmp rfl _ _ g0 32 (bc x).toArray (0, 0) _ _ rfl (setRow_heap _ _ _ _ _ _ HZ1.out) Try.underlying32 rfl HSz.out rfl) rfl ⟨rfl, HF.out.kept htr (fun k hk hm => HGU.out (List.mem_singleton.1 hm ▸ hk)), HFT.out.trans htr (fun i hi => .inr (by rw [List.mem_singleton.1 hi, HG0.out]; exact Nat.le_refl _))⟩
#print axioms cread_new
set_option maxHeartbeats 2000000 in
theorem cread_no {w : World} {C B : Nat} {U : List Nat} {n : Nat} {s : CS} (h : IsCache w C B U n s) (b : Int) (hb : s.askI b = 2) : Calls Try.prog 18 #[.pointer (some ⟨C, 0, none⟩), .int .i64 b] w fun e w' => e = .returned (.tuple #[.agg (bc zeroB).toArray, .int .i64 2]) ∧ Grow w w' := by
  have HB := Lib.hid (show Try.prog.built 32 [] = some (bc zeroB).toArray by kernel_rfl)
  have HC := Lib.hid (h.grow (Grow.alloc w (.cells (bc zeroB).toArray 32)))
  have hz := zero32
  have hzs := zero_size
  have HO := Lib.hid (show (bc zeroB).toArray.all (·.oneCell') = true from all_oneCell_toArray (bc_one _))
  generalize (bc zeroB).toArray = Z at *
  have HZ := Lib.hid hzs
  have HSz := Lib.hid (show (Try.prog.info? 32).map (·.size) = some Z.size by rw [hzs]; exact size32)
  have HA := Lib.hid hb
  clear h hb hzs
  go_enter Try.func18, Try.ntmps18
  go_wp2_with fail
  refine (cask_any HC.out b).mono ?_
  rintro e w' ⟨rfl, rfl⟩
  rw [HA.out]
  go_wp2_with (first | ((refine wpList_build rfl 32 _ rfl (by rw [show (((#[] : Array (Nat × Operand)).map fun (i, x) => (i, Act.eval _ x)).toList) = [] from rfl, HB.out]; rfl) ?_); rw [show (((#[] : Array (Nat × Operand)).map fun (i, x) => (i, Act.eval _ x)).toList) = [] from rfl, HB.out, Option.getD_some]) | (refine wpList_store_row rfl 32 _ _ rfl w.heap.size Z rfl rfl 32 Z (heap_alloc_last _ _) HSz.out rfl HO.out ?_))
  refine bodyPost_ret (results_row_tmp rfl _ _ w.heap.size 32 Z (0, 0) _ _ rfl (setRow_heap _ _ _ _ _ _ (heap_alloc_last _ _)) Try.underlying32 rfl HSz.out rfl) rfl ⟨rfl, below_setRow ((Below.refl _ _).alloc (Nat.le_refl _) _) (Nat.le_refl _) _⟩
#print axioms cread_no
end Go.Proofs.Ytmfofobmceflmaa
