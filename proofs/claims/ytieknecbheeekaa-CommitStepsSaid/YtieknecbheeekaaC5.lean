/- cache: Back: the walk. -/
import Derived.Test.YtieknecbheeekaaC4
set_option linter.unusedVariables false
set_option linter.unusedSimpArgs false
namespace Go.Proofs.Ytieknecbheeekaa
open Go.RowKit Go.Maps

theorem cback_no {w : World} {C B : Nat} {U : List Nat} {n : Nat} {s : CS} (h : IsCache w C B U n s) (b : Int) (hb : s.askI b = 2) : Calls Try.prog 39 #[.pointer (some ⟨C, 0, none⟩), .int .i64 b] w fun e w' => e = .returned (.int .i64 2) ∧ w = w' := by
  have HC := Lib.hid h
  have HA := Lib.hid hb
  clear h hb
  go_enter Try.func39, Try.ntmps39
  go_wp2_with fail
  refine (cask_any HC.out b).mono ?_
  rintro e w' ⟨rfl, rfl⟩
  rw [HA.out]
  go_wp2_with fail
  go_ret
  exact ⟨rfl, rfl⟩
/-- behind the look at the map: a new block, with what was found -/
structure Found1 (w : World) (y : Hd) (W : World) : Prop where
  grow : Grow w W
  lt : w.heap.size < W.heap.size
  held : W.heap[w.heap.size]? = some (.cells (hcells y).toArray 76)
theorem found1_mk (w : World) (Z2 : Array Value) (y : Hd) : Found1 w y ((w.alloc (.cells Z2 76)).setRow w.heap.size (hcells y).toArray) where
  grow := below_setRow ((Below.refl _ _).alloc (Nat.le_refl _) _) (Nat.le_refl _) _
  lt := by simp
  held := setRow_heap _ _ _ _ _ _ (heap_alloc_last _ _)
theorem hcells_set {x : Blk} (hx : x.length = 256) (c d : Bool) : (hcells (x, c)).toArray.setIfInBounds 256 (.bool d) = (hcells (x, d)).toArray := by
  have hl : (bc x).length = 256 := by rw [bc_length]; exact hx
  rw [List.setIfInBounds_toArray]
  unfold hcells
  rw [List.set_append_right _ _ (by rw [hl]; exact Nat.le_refl _), hl]
  rfl
set_option maxRecDepth 100000 in
set_option maxHeartbeats 2000000 in
theorem cback_idle {w : World} {C B : Nat} {U : List Nat} {n : Nat} {s : CS} (h : IsCache w C B U n s) (b : Nat) (hb : b < s.d.safe.length) (hy : ∀ x, s.f b ≠ some (x, true)) : Calls Try.prog 39 #[.pointer (some ⟨C, 0, none⟩), .int .i64 (b : Int)] w fun e w' => e = .returned (.int .i64 0) ∧ Grow w w' := by
  have HC := Lib.hid h
  have HA := Lib.hid (show s.askI b = 0 from if_pos (by omega))
  have hm := (h.elim fun bm h => h.elim fun bp h => h.elim fun S h => h.2.disk.one.2.1)
  have HKB := Lib.hid (show IntOk (b : Int) by unfold IntOk; omega)
  obtain ⟨bm, bp, S, hU, hcp⟩ := HC.out
  have HU := Lib.hid hU
  have HCP := Lib.hid hcp
  obtain ⟨_, c1, _⟩ := hcp.cells
  obtain ⟨D, hown, hmm⟩ := hcp.has
  have HO := Lib.hid hown
  have HM := Lib.hid hmm
  have hz7 := zero77a
  have HSO := Lib.hid (show ∀ y : Hd, y.1.length = 256 → (hcells (zeroB, false)).toArray.size = (hcells y).toArray.size from fun y hy => by rw [List.size_toArray, List.size_toArray, hcells_length zeroHd, hcells_length hy])
  have HFD := Lib.hid (fun y => found1_mk w (hcells (zeroB, false)).toArray y)
  obtain ⟨Z2, hZ2⟩ : ∃ Z2, Z2 = (hcells (zeroB, false)).toArray := ⟨_, rfl⟩
  rw [← hZ2] at hz7 HSO HFD
  clear hZ2
  cases hf : s.f b with
  | none =>
    obtain ⟨y0, hy0⟩ : ∃ y0 : Hd, y0 = (zeroB, false) := ⟨_, rfl⟩
    have HY := Lib.hid (show (s.f b).getD (zeroB, false) = y0 by rw [hf, hy0]; rfl)
    have HT := Lib.hid (show (s.f b).isSome = false by rw [hf]; rfl)
    have HYL := Lib.hid (show y0.1.length = 256 by rw [hy0]; exact zeroHd)
    have HSY := Lib.hid (hsize HYL.out)
    have HO1 := Lib.hid (all_oneCell_toArray (hcells_one y0))
    clear h hcp hown hmm hy hU hb hf hy0
    go_enter Try.func39, Try.ntmps39
    go_wp2_with fail
    refine (cask_any HC.out b).mono ?_
    rintro e w' ⟨rfl, rfl⟩
    rw [HA.out]
    go_upto_region 5 with (first
      | (at_lookup; refine wpList_lookup_held rfl _ _ rfl bm n _ D s.f rfl HO.out HM.out b HKB.out rfl y0 HY.out false HT.out ?_)
      | (refine wpList_store_row rfl 76 _ _ rfl w.heap.size (hcells y0).toArray rfl rfl 76 Z2 (heap_alloc_last _ _) HSY.out (HSO.out y0 HYL.out) HO1.out ?_))
    have HF := Lib.hid (HFD.out y0)
    clear HFD
    generalize (w.alloc (.cells Z2 76)).setRow w.heap.size (hcells y0).toArray = W2 at *
    have HG := Lib.hid HF.out.grow
    clear c1
    go_wp2_with fail
    go_ret
    exact ⟨rfl, HG.out⟩
  | some y =>
    have HY := Lib.hid (show (s.f b).getD (zeroB, false) = y by rw [hf]; rfl)
    have HT := Lib.hid (show (s.f b).isSome = true by rw [hf]; rfl)
    have HYL := Lib.hid (hmm.dom b y hf).2
    have HSY := Lib.hid (hsize HYL.out)
    have HO1 := Lib.hid (all_oneCell_toArray (hcells_one y))
    have HY2 := Lib.hid (show y.2 = false by
      obtain ⟨x, t⟩ := y
      cases t
      · rfl
      · exact absurd hf (hy x))
    clear h hcp hown hmm hy hU hb hf
    go_enter Try.func39, Try.ntmps39
    go_wp2_with fail
    refine (cask_any HC.out b).mono ?_
    rintro e w' ⟨rfl, rfl⟩
    rw [HA.out]
    go_upto_region 5 with (first
      | (at_lookup; refine wpList_lookup_held rfl _ _ rfl bm n _ D s.f rfl HO.out HM.out b HKB.out rfl y HY.out true HT.out ?_)
      | (refine wpList_store_row rfl 76 _ _ rfl w.heap.size (hcells y).toArray rfl rfl 76 Z2 (heap_alloc_last _ _) HSY.out (HSO.out y HYL.out) HO1.out ?_))
    have HF := Lib.hid (HFD.out y)
    clear HFD
    generalize (w.alloc (.cells Z2 76)).setRow w.heap.size (hcells y).toArray = W2 at *
    have HG := Lib.hid HF.out.grow
    have hfl := held_flag HYL.out HF.out.held
    rw [HY2.out] at hfl
    clear c1
    go_wp2_with fail
    go_ret
    exact ⟨rfl, HG.out⟩
#print axioms cback_idle
set_option maxRecDepth 100000 in
set_option maxHeartbeats 4000000 in
theorem cback_dirty {w : World} {C B : Nat} {U : List Nat} {n : Nat} {s : CS} (h : IsCache w C B U n s) (hn : n ≤ 1000000) (b : Nat) (hb : b < s.d.safe.length) (x : Blk) (hy : s.f b = some (x, true)) (hd : s.d.dead = false) (hw : s.d.ws.length ≤ 100000) (ha : 0 ≤ s.d.acts ∧ s.d.acts ≤ 1000000) (hl : 0 ≤ s.d.left ∧ s.d.left ≤ 9223372036854775807) :
    Calls Try.prog 39 #[.pointer (some ⟨C, 0, none⟩), .int .i64 (b : Int)] w fun e w' => e = .returned (.int .i64 0) ∧ ∃ U', IsCache w' C B U' (n + 1) { s with d := s.d.wrote b x, f := putF s.f b (x, false) } ∧ Touch U w w' ∧ ∀ k ∈ U', k ∈ U ∨ w.heap.size ≤ k := by
  have HC := Lib.hid h
  have HA := Lib.hid (show s.askI b = 0 from if_pos (by omega))
  have hm := (h.elim fun bm h => h.elim fun bp h => h.elim fun S h => h.2.disk.one.2.1)
  have HKB := Lib.hid (show IntOk (b : Int) by unfold IntOk; omega)
  obtain ⟨bm, bp, S, hU, hcp⟩ := HC.out
  have HU := Lib.hid hU
  have HCP := Lib.hid hcp
  obtain ⟨_, c1, _⟩ := hcp.cells
  obtain ⟨D, hown, hmm⟩ := hcp.has
  have HO := Lib.hid hown
  have HM := Lib.hid hmm
  have hz7 := zero77a
  have HSO := Lib.hid (show ∀ y : Hd, y.1.length = 256 → (hcells (zeroB, false)).toArray.size = (hcells y).toArray.size from fun y hy => by rw [List.size_toArray, List.size_toArray, hcells_length zeroHd, hcells_length hy])
  have HFD := Lib.hid (fun y => found1_mk w (hcells (zeroB, false)).toArray y)
  obtain ⟨Z2, hZ2⟩ : ∃ Z2, Z2 = (hcells (zeroB, false)).toArray := ⟨_, rfl⟩
  rw [← hZ2] at hz7 HSO HFD
  clear hZ2
  have HX := Lib.hid (show x.length = 256 from (hmm.dom b (x, true) hy).2)
  have HY := Lib.hid (show (s.f b).getD (zeroB, false) = (x, true) by rw [hy]; rfl)
  have HT := Lib.hid (show (s.f b).isSome = true by rw [hy]; rfl)
  have HYL := Lib.hid (show ((x, true) : Hd).1.length = 256 from HX.out)
  have HSY := Lib.hid (hsize HYL.out)
  have HO1 := Lib.hid (all_oneCell_toArray (hcells_one (x, true)))
  have HWR := Lib.hid (fun (wq : World) (hq : IsDisk wq B S s.d) => write_ok hq b hb x HX.out hd hw ha hl)
  have HKK := Lib.hid (keyOf_ik HKB.out)
  have HSz := Lib.hid (show (Try.prog.info? 44).map (·.size) = some (bc x).length by rw [bc_length, HX.out]; exact size32)
  have HSH := Lib.hid (hsize (y := (x, false)) HX.out)
  have HIN := Lib.hid (show (0 : Int) ≤ (b : Int) ∧ (b : Int) < s.d.safe.length by omega)
  have HHS := Lib.hid (hcells_set HX.out true false)
  clear h hcp hown hmm hy hU hb hd hw ha hl
  go_enter Try.func39, Try.ntmps39
  go_wp2_with fail
  refine (cask_any HC.out b).mono ?_
  rintro e w' ⟨rfl, rfl⟩
  rw [HA.out]
  go_upto_region 5 with (first
    | (at_lookup; refine wpList_lookup_held rfl _ _ rfl bm n _ D s.f rfl HO.out HM.out b HKB.out rfl (x, true) HY.out true HT.out ?_)
    | (refine wpList_store_row rfl 76 _ _ rfl w.heap.size (hcells (x, true)).toArray rfl rfl 76 Z2 (heap_alloc_last _ _) HSY.out (HSO.out (x, true) HYL.out) HO1.out ?_))
  have HF := Lib.hid (HFD.out (x, true))
  clear HFD
  generalize (w.alloc (.cells Z2 76)).setRow w.heap.size (hcells (x, true)).toArray = W2 at *
  have hfl := held_flag HYL.out HF.out.held
  dsimp only at hfl
  obtain ⟨PP, hPP⟩ : ∃ g, g = w.heap.size := ⟨_, rfl⟩
  have HPP := Lib.hid hPP
  rw [← hPP] at hfl
  rw [← hPP]
  have HG2 := Lib.hid HF.out.grow
  have HCX := Lib.hid (show PP < W2.heap.size ∧ W2.heap[PP]? = some (.cells (hcells (x, true)).toArray 76) by rw [hPP]; exact ⟨HF.out.lt, HF.out.held⟩)
  have HCP2 := Lib.hid (HCP.out.kept (Touch.of_below (S := []) HF.out.grow) (by simp))
  have HCB := Lib.hid (show C < W2.heap.size ∧ W2.cell? ⟨C, 0, none⟩ = some (.pointer (some ⟨B, 0, none⟩)) from ⟨HCP2.out.lt.1, HCP2.out.cells.1⟩)
  clear hPP c1 HF
  go_upto_region 7 with (fail)
  clear hfl
  refine wp_region_facts_tail 7 (by kernel_rfl) (by kernel_rfl) [[], [(0, some 31)], [(1, some 32)], [(2, some 33)], [], [], [(5, some 36)]] [(0, some 31), (1, some 32), (2, some 33), (3, some 34), (4, some 35), (5, some 36), (6, some 37)] (by kernel_rfl) (by kernel_rfl) (by kernel_rfl) (Touch []) (Touch.refl []) (fun _ _ _ h h' => h.trans h' (fun i hi => .inl hi)) [Is (Value.pointer (some ⟨C, 0, none⟩)), Is (Value.pointer (some ⟨C, 0, none⟩)), Is (Value.pointer (some ⟨C, 0, none⟩)), Is (Value.pointer (some ⟨B, 0, none⟩)), Is (Value.int .i64 (b : Int)), Is (Value.pointer (some ⟨PP, 0, none⟩)), Is (Value.agg (bc x).toArray)] rfl ⟨is_stab _ _, is_stab _ _, is_stab _ _, is_stab _ _, is_stab _ _, is_stab _ _, is_stab _ _, trivial⟩ ⟨?o0, ?o1, ?o2, ?o3, ?o4, ?o5, ?o6, trivial⟩ ?_
  case o0 =>
    intro vals wq hRq hpq
    simp only [List.getD_cons_zero, List.getD_cons_succ, canonP]
    simp only [Oper.gives]
    go_simp
    exact ⟨is_mk _ _, (Touch.refl []) _⟩
  case o1 =>
    intro vals wq hRq hpq
    simp only [factsP, List.getD_cons_zero, List.getD_cons_succ] at hpq
    have f0 := hpq.1
    replace hpq := hpq.2
    clear hpq
    replace f0 : vals 0 = _ := f0
    simp only [List.getD_cons_zero, List.getD_cons_succ, canonP, f0]
    clear f0
    simp only [Oper.gives]
    go_simp
    exact ⟨is_mk _ _, Touch.refl _ _⟩
  case o2 =>
    intro vals wq hRq hpq
    simp only [factsP, List.getD_cons_zero, List.getD_cons_succ] at hpq
    have f1 := hpq.1
    replace hpq := hpq.2
    clear hpq
    replace f1 : vals 1 = _ := f1
    simp only [List.getD_cons_zero, List.getD_cons_succ, canonP, f1]
    clear f1
    simp only [Oper.gives]
    go_simp
    exact ⟨is_mk _ _, Touch.refl _ _⟩
  case o3 =>
    intro vals wq hRq hpq
    simp only [factsP, List.getD_cons_zero, List.getD_cons_succ] at hpq
    have f2 := hpq.1
    replace hpq := hpq.2
    clear hpq
    replace f2 : vals 2 = _ := f2
    simp only [List.getD_cons_zero, List.getD_cons_succ, canonP, f2]
    clear f2
    have hcc : wq.cell? ⟨C, 0, none⟩ = some (.pointer (some ⟨B, 0, none⟩)) := (Touch.cell ((Touch.drew [] _).trans hRq (by simp)) HCB.out.1 (by simp)).trans HCB.out.2
    simp only [Oper.gives]
    go_simp
    exact ⟨is_mk _ _, Touch.refl _ _⟩
  case o4 =>
    intro vals wq hRq hpq
    simp only [List.getD_cons_zero, List.getD_cons_succ, canonP]
    simp only [Oper.gives]
    go_simp
    exact ⟨is_mk _ _, (Touch.refl []) _⟩
  case o5 =>
    intro vals wq hRq hpq
    simp only [List.getD_cons_zero, List.getD_cons_succ, canonP]
    simp only [Oper.gives]
    go_simp
    exact ⟨is_mk _ _, Touch.refl _ _⟩
  case o6 =>
    intro vals wq hRq hpq
    simp only [factsP, List.getD_cons_zero, List.getD_cons_succ] at hpq
    have f5 := hpq.1
    replace hpq := hpq.2
    clear hpq
    replace f5 : vals 5 = _ := f5
    simp only [List.getD_cons_zero, List.getD_cons_succ, canonP, f5]
    clear f5
    have hbx : wq.heap[PP]? = some (.cells (hcells (x, true)).toArray 76) := (Touch.block ((Touch.drew [] _).trans hRq (by simp)) PP HCX.out.1 (by simp)).trans HCX.out.2
    exact gives_load_mid 44 _ rfl PP 0 rfl (bc x) _ (held_range hbx) Try.underlying44 rfl HSz.out ⟨is_mk _ _, Touch.refl _ _⟩
  intro vals wz hRwz hfwz
  simp only [AllFacts] at hfwz
  have g0 := hfwz.1
  replace hfwz := hfwz.2
  have g1 := hfwz.1
  replace hfwz := hfwz.2
  have g2 := hfwz.1
  replace hfwz := hfwz.2
  have g3 := hfwz.1
  replace hfwz := hfwz.2
  have g4 := hfwz.1
  replace hfwz := hfwz.2
  have g5 := hfwz.1
  replace hfwz := hfwz.2
  have g6 := hfwz.1
  replace hfwz := hfwz.2
  clear hfwz
  replace g0 : vals 0 = _ := g0
  replace g1 : vals 1 = _ := g1
  replace g2 : vals 2 = _ := g2
  replace g3 : vals 3 = _ := g3
  replace g4 : vals 4 = _ := g4
  replace g5 : vals 5 = _ := g5
  replace g6 : vals 6 = _ := g6
  simp only [List.drop_succ_cons, List.drop_zero]
  simp only [canonP, Act.put, List.setIfInBounds_toArray, List.set_cons_succ, List.set_cons_zero, g0, g1, g2, g3, g4, g5, g6]
  clear g0 g1 g2 g3 g4 g5 g6
  have HTW := Lib.hid ((Touch.drew [] W2).trans hRwz (by simp))
  clear hRwz
  go_wp2_with fail
  refine (HWR.out _ (HCP2.out.disk.kept HTW.out (by simp))).mono ?_
  intro e W3 hpost
  obtain ⟨he, S', hd3, ht3, hs3⟩ := hpost
  subst he
  have ht23 : Touch S W2 W3 := (HTW.out.mono (by simp)).trans ht3 (fun i hi => .inl hi)
  have hPS : PP ∉ S := fun hm => by have := HCP.out.disk.lt _ hm; have := HPP.out; omega
  have HX3 := Lib.hid (show PP < W3.heap.size ∧ W3.heap[PP]? = some (.cells (hcells (x, true)).toArray 76) from ⟨Nat.lt_of_lt_of_le HCX.out.1 ht23.size, (ht23.block PP HCX.out.1 hPS).trans HCX.out.2⟩)
  have HD3 := Lib.hid hd3
  have HT3 := Lib.hid ht23
  have HS3 := Lib.hid (show ∀ k ∈ S', k ∈ S ∨ W2.heap.size ≤ k from fun k hk => by
    rcases hs3 k hk with h | h
    · exact .inl h
    · exact .inr (Nat.le_trans HTW.out.size h))
  have HO3 := Lib.hid (show W3.ownsMap Try.prog 3 heldElem bm n D from ownsMap_touch (ownsMap_touch HO.out (Touch.of_below (S := []) HG2.out) (by simp)) ht23 HCP.out.mS)
  have c256 := held_flag HYL.out HX3.out.2
  dsimp only at c256
  have f256 := frozen_at HX3.out.2 256
  clear hd3 ht3 hs3 ht23 hPS
  go_upto_region 11 with (fail)
  have htf : Touch [PP] W3 (W3.setCell ⟨PP, 256, none⟩ (.bool false)) := Touch.setCell W3 (by simp) _
  have HCX4 := Lib.hid (show PP < (W3.setCell ⟨PP, 256, none⟩ (.bool false)).heap.size ∧ (W3.setCell ⟨PP, 256, none⟩ (.bool false)).heap[PP]? = some (.cells (hcells (x, false)).toArray 76) from ⟨Nat.lt_of_lt_of_le HX3.out.1 htf.size, by rw [heap_set HX3.out.2, HHS.out]⟩)
  have HTF := Lib.hid htf
  generalize W3.setCell ⟨PP, 256, none⟩ (.bool false) = W4 at *
  have hPU : PP ∉ C :: bm :: bp :: S := fun hm => by have := HC.out.lt PP (by rw [HU.out]; exact hm); have := HPP.out; omega
  have hPS' : PP ∉ S' := fun hm => by
    rcases HS3.out PP hm with h | h
    · exact hPU (by simp [h])
    · have := HCX.out.1; omega
  have hCS' : ∀ k ∈ [C, bm, bp], k ∉ S' := fun k hk hm => by
    have hlt : k < W2.heap.size := by
      have := HCP2.out.lt
      simp only [List.mem_cons, List.not_mem_nil, or_false] at hk
      rcases hk with rfl | rfl | rfl
      · exact this.1
      · exact this.2.1
      · exact this.2.2
    rcases HS3.out k hm with h | h
    · simp only [List.mem_cons, List.not_mem_nil, or_false] at hk
      rcases hk with rfl | rfl | rfl
      · exact HCP.out.cS h
      · exact HCP.out.mS h
      · exact HCP.out.pS h
    · omega
  have HCP4 := Lib.hid (show CParts W4 C bm bp B S' n { s with d := s.d.wrote b x } from {
    obj := (htf.block C (Nat.lt_of_lt_of_le HCP2.out.lt.1 HT3.out.size) (by simpa using fun (e : C = PP) => hPU (by simp [e]))).trans ((HT3.out.block C HCP2.out.lt.1 HCP.out.cS).trans HCP2.out.obj)
    disk := HD3.out.kept htf (fun k hk hm => hPS' (List.mem_singleton.1 hm ▸ hk))
    has := ⟨D, ownsMap_touch HO3.out htf (by simpa using fun (e : bm = PP) => hPU (by simp [e])), HM.out⟩
    pin := by
      obtain ⟨E, h1, h2⟩ := HCP2.out.pin
      exact ⟨E, ownsMap_touch (ownsMap_touch h1 HT3.out HCP.out.pS) htf (by simpa using fun (e : bp = PP) => hPU (by simp [e])), h2⟩
    cS := hCS' C (by simp)
    mS := hCS' bm (by simp)
    pS := hCS' bp (by simp)
    mp := HCP.out.mp })
  have HCB4 := Lib.hid (show C < W4.heap.size ∧ W4.cell? ⟨C, 1, none⟩ = some (.map (some bm)) from ⟨HCP4.out.lt.1, HCP4.out.cells.2.1⟩)
  have HO4 := Lib.hid (show W4.ownsMap Try.prog 3 heldElem bm n D from ownsMap_touch HO3.out htf (by simpa using fun (e : bm = PP) => hPU (by simp [e])))
  have HTU := Lib.hid (show Touch U w W4 from ((Touch.of_below HG2.out).trans HT3.out (fun i hi => .inl (by rw [HU.out]; simp [hi]))).trans htf (fun i hi => .inr (by rw [List.mem_singleton.1 hi, HPP.out]; exact Nat.le_refl _)))
  have HUN := Lib.hid (show ∀ k ∈ C :: bm :: bp :: S', k ∈ U ∨ w.heap.size ≤ k from fun k hk => by
    simp only [List.mem_cons] at hk
    rcases hk with rfl | rfl | rfl | hk
    · exact .inl (by rw [HU.out]; simp)
    · exact .inl (by rw [HU.out]; simp)
    · exact .inl (by rw [HU.out]; simp)
    · rcases HS3.out k hk with h | h
      · exact .inl (by rw [HU.out]; simp [h])
      · exact .inr (Nat.le_trans HG2.out.size h))
  clear htf c256 f256 hPU hPS' hCS' HCX HCB HO3 HX3
  have HCX := HCX4
  have HCB := HCB4
  refine wp_region_facts_tail 6 (by kernel_rfl) (by kernel_rfl) [[], [(0, some 43)], [(1, some 44)], [(2, some 45)], [], []] [(0, some 43), (1, some 44), (2, some 45), (3, some 46), (4, some 47), (5, some 48)] (by kernel_rfl) (by kernel_rfl) (by kernel_rfl) (Touch []) (Touch.refl []) (fun _ _ _ h h' => h.trans h' (fun i hi => .inl hi)) [Is (Value.pointer (some ⟨C, 0, none⟩)), Is (Value.pointer (some ⟨C, 0, none⟩)), Is (Value.pointer (some ⟨C, 1, none⟩)), Is (Value.map (some bm)), Is (Value.int .i64 (b : Int)), Is (Value.agg (hcells (x, false)).toArray)] rfl ⟨is_stab _ _, is_stab _ _, is_stab _ _, is_stab _ _, is_stab _ _, is_stab _ _, trivial⟩ ⟨?o0, ?o1, ?o2, ?o3, ?o4, ?o5, trivial⟩ ?_
  case o0 =>
    intro vals wq hRq hpq
    simp only [List.getD_cons_zero, List.getD_cons_succ, canonP]
    simp only [Oper.gives]
    go_simp
    exact ⟨is_mk _ _, (Touch.refl []) _⟩
  case o1 =>
    intro vals wq hRq hpq
    simp only [factsP, List.getD_cons_zero, List.getD_cons_succ] at hpq
    have f0 := hpq.1
    replace hpq := hpq.2
    clear hpq
    replace f0 : vals 0 = _ := f0
    simp only [List.getD_cons_zero, List.getD_cons_succ, canonP, f0]
    clear f0
    simp only [Oper.gives]
    go_simp
    exact ⟨is_mk _ _, Touch.refl _ _⟩
  case o2 =>
    intro vals wq hRq hpq
    simp only [factsP, List.getD_cons_zero, List.getD_cons_succ] at hpq
    have f1 := hpq.1
    replace hpq := hpq.2
    clear hpq
    replace f1 : vals 1 = _ := f1
    simp only [List.getD_cons_zero, List.getD_cons_succ, canonP, f1]
    clear f1
    simp only [Oper.gives]
    go_simp
    exact ⟨is_mk _ _, Touch.refl _ _⟩
  case o3 =>
    intro vals wq hRq hpq
    simp only [factsP, List.getD_cons_zero, List.getD_cons_succ] at hpq
    have f2 := hpq.1
    replace hpq := hpq.2
    clear hpq
    replace f2 : vals 2 = _ := f2
    simp only [List.getD_cons_zero, List.getD_cons_succ, canonP, f2]
    clear f2
    have hcc : wq.cell? ⟨C, 1, none⟩ = some (.map (some bm)) := (Touch.cell ((Touch.drew [] _).trans hRq (by simp)) HCB.out.1 (by simp)).trans HCB.out.2
    simp only [Oper.gives]
    go_simp
    exact ⟨is_mk _ _, Touch.refl _ _⟩
  case o4 =>
    intro vals wq hRq hpq
    simp only [List.getD_cons_zero, List.getD_cons_succ, canonP]
    simp only [Oper.gives]
    go_simp
    exact ⟨is_mk _ _, (Touch.refl []) _⟩
  case o5 =>
    intro vals wq hRq hpq
    simp only [List.getD_cons_zero, List.getD_cons_succ, canonP]
    have hbx : wq.heap[PP]? = some (.cells (hcells (x, false)).toArray 76) := (Touch.block ((Touch.drew [] _).trans hRq (by simp)) PP HCX.out.1 (by simp)).trans HCX.out.2
    exact gives_load_row 76 _ rfl PP rfl 76 (hcells (x, false)).toArray (0, 0) _ hbx Try.underlying76 rfl HSH.out ⟨is_mk _ _, Touch.refl _ _⟩
  intro vals wz hRwz hfwz
  simp only [AllFacts] at hfwz
  have g0 := hfwz.1
  replace hfwz := hfwz.2
  have g1 := hfwz.1
  replace hfwz := hfwz.2
  have g2 := hfwz.1
  replace hfwz := hfwz.2
  have g3 := hfwz.1
  replace hfwz := hfwz.2
  have g4 := hfwz.1
  replace hfwz := hfwz.2
  have g5 := hfwz.1
  replace hfwz := hfwz.2
  clear hfwz
  replace g0 : vals 0 = _ := g0
  replace g1 : vals 1 = _ := g1
  replace g2 : vals 2 = _ := g2
  replace g3 : vals 3 = _ := g3
  replace g4 : vals 4 = _ := g4
  replace g5 : vals 5 = _ := g5
  simp only [List.drop_succ_cons, List.drop_zero]
  simp only [canonP, Act.put, List.setIfInBounds_toArray, List.set_cons_succ, List.set_cons_zero, g0, g1, g2, g3, g4, g5]
  clear g0 g1 g2 g3 g4 g5
  have HTY := Lib.hid ((Touch.drew [] W4).trans hRwz (by simp))
  clear hRwz
  refine wpList_mapUpdate_in _ rfl _ _ _ 70 rfl 3 76 keyInt Try.underlying70 _ bm n D rfl (ownsMap_touch HO4.out HTY.out (by simp)) (by unfold maxLen; omega) _ _ (ik b) rfl rfl HKK.out _ [] (heldElem_mk (x, false) HX.out) ?_
  intro w1 hown1 hturn1
  have HFI := Lib.hid (show ∃ U', IsCache w1 C B U' (n + 1) { s with d := s.d.wrote b x, f := putF s.f b (x, false) } ∧ Touch U w w1 ∧ ∀ k ∈ U', k ∈ U ∨ w.heap.size ≤ k from
    ⟨C :: bm :: bp :: S', ⟨bm, bp, S', rfl, (HCP4.out.kept HTY.out (by simp)).turned (Nat.le_succ _) hturn1.grown hown1 (HM.out.put HO4.out.isMap HIN.out HX.out)⟩, (HTU.out.trans HTY.out (by simp)).trans (Touch.grown (S := U) hturn1.grown (fun k e => by cases e; rw [HU.out]; simp)) (fun i hi => .inl hi), HUN.out⟩)
  clear hown1 hturn1
  go_wp2_with fail
  go_ret
  exact ⟨rfl, HFI.out⟩
#print axioms cback_dirty
end Go.Proofs.Ytieknecbheeekaa
