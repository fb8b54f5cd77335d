/- cache: what is held, built by value; Write: the walk. -/
import Derived.Test.YtieknecbheeekaaC2
import Derived.Laws.Tables
set_option linter.unusedVariables false
set_option linter.unusedSimpArgs false
namespace Go.Proofs.Ytieknecbheeekaa
open Go.RowKit Go.Maps

theorem info77 : (Try.prog.info? 76).map (fun i => (i.zero, i.size)) = some (some (hvv (zeroB, false)), 257) := by kernel_rfl
theorem zero77 (w : World) : (zeroValue 76).run Try.prog w = .ok (hvv (zeroB, false)) w := (zero_of_info info77).1 w
theorem size77 : (Try.prog.info? 76).map (·.size) = some 257 := (zero_of_info info77).2
theorem built77 (parts : List (Nat × Value)) : Try.prog.built 76 parts = Instr.fill (fun i => ([(0, 256), (256, 1)] : List (Nat × Nat)).toArray[i]?) (hcells (zeroB, false)).toArray parts := by kernel_rfl
theorem setMany_front : ∀ (vs a r : List Value), a.length = vs.length → setMany (a ++ r) 0 vs = vs ++ r := by
  intro vs a r h
  apply List.ext_getElem?
  intro k
  rw [setMany_get _ _ _ _ (by rw [List.length_append]; omega)]
  by_cases hk : k < vs.length
  · rw [if_pos (by omega), List.getElem?_append_left hk]; simp
  · rw [if_neg (by omega), List.getElem?_append_right (by omega), List.getElem?_append_right (by omega), h]
theorem setMany_back (a : List Value) (u v : Value) (n : Nat) (h : a.length = n) : setMany (a ++ [u]) n [v] = a ++ [v] := by
  subst h
  simp [setMany]
theorem bcz_length : (bc zeroB).length = 256 := by rw [bc_zero, List.length_replicate]
set_option maxRecDepth 100000 in
theorem built_clean (x : Blk) (hx : x.length = 256) : Try.prog.built 76 [(0, .agg (bc x).toArray)] = some (hcells (x, false)).toArray := by
  have hl : (bc x).length = 256 := by rw [bc_length]; exact hx
  rw [built77, fill_cons (off := 0) (size := 256) rfl (by show (bc x).toArray.size = 256; rw [List.size_toArray, hl]) (by rw [List.size_toArray, hcells_length zeroHd]; omega)]
  rw [Instr.fill]
  congr 2
  exact setMany_front (bc x) (bc zeroB) _ (by rw [bcz_length, hl])
set_option maxRecDepth 100000 in
theorem built_dirty (x : Blk) (hx : x.length = 256) : Try.prog.built 76 [(0, .agg (bc x).toArray), (1, .bool true)] = some (hcells (x, true)).toArray := by
  have hl : (bc x).length = 256 := by rw [bc_length]; exact hx
  have h1 : setMany (hcells (zeroB, false)) 0 (bc x) = bc x ++ [.bool false] := setMany_front (bc x) (bc zeroB) _ (by rw [bcz_length, hl])
  rw [built77, fill_cons (off := 0) (size := 256) rfl (by show (bc x).toArray.size = 256; rw [List.size_toArray, hl]) (by rw [List.size_toArray, hcells_length zeroHd]; omega)]
  rw [show (setMany (hcells (zeroB, false)).toArray.toList 0 (Value.agg (bc x).toArray).cells.toList) = bc x ++ [.bool false] from h1]
  rw [fill_cons (off := 256) (size := 1) rfl rfl (by rw [List.size_toArray, List.length_append, hl]; simp)]
  rw [Instr.fill]
  congr 2
  exact setMany_back (bc x) _ _ 256 hl
theorem held_range {w : World} {PP : Nat} {h : Hd} (hb : w.heap[PP]? = some (.cells (hcells h).toArray 76)) : w.rangeAt PP 0 (bc h.1) := by
  intro j v hv
  rw [Nat.zero_add, cell_at hb]
  unfold hcells
  have hj := (List.getElem?_eq_some_iff.1 hv).1
  simp only [List.getElem?_toArray]
  rw [List.getElem?_append_left hj]
  exact hv
theorem held_flag {w : World} {PP : Nat} {h : Hd} (hl : h.1.length = 256) (hb : w.heap[PP]? = some (.cells (hcells h).toArray 76)) : w.cell? ⟨PP, 256, none⟩ = some (.bool h.2) := by
  rw [cell_at hb]
  unfold hcells
  simp only [List.getElem?_toArray]
  rw [List.getElem?_append_right (by rw [bc_length]; omega), bc_length, hl]
  rfl
set_option maxRecDepth 100000 in
set_option maxHeartbeats 2000000 in
theorem cwrite_ok {w : World} {C B : Nat} {U : List Nat} {n : Nat} {s : CS} (h : IsCache w C B U n s) (hn : n ≤ 1000000) (b : Nat) (hb : b < s.d.safe.length) (x : Blk) (hx : x.length = 256) : Calls Try.prog 7 #[.pointer (some ⟨C, 0, none⟩), .int .i64 (b : Int), .agg (bc x).toArray] w fun e w' => e = .returned (.int .i64 0) ∧ IsCache w' C B U (n + 1) { s with f := putF s.f b (x, true) } ∧ Touch U w w' := by
  have HC := Lib.hid (h.grow (Grow.alloc w (.cells (bc x).toArray 44)))
  have HA := Lib.hid (show s.askI b = 0 from if_pos (by omega))
  have hm := (h.elim fun bm h => h.elim fun bp h => h.elim fun S h => h.2.disk.one.2.1)
  have HK := Lib.hid (keyOf_ik (i := (b : Int)) (by unfold IntOk; omega))
  have HBH := Lib.hid (built_dirty x hx)
  have HSz := Lib.hid (show (Try.prog.info? 44).map (·.size) = some (bc x).toArray.size by rw [List.size_toArray, bc_length, hx]; exact size32)
  have HCX := Lib.hid (show w.heap.size < (w.alloc (.cells (bc x).toArray 44)).heap.size ∧ (w.alloc (.cells (bc x).toArray 44)).heap[w.heap.size]? = some (.cells (bc x).toArray 44) from ⟨by simp, heap_alloc_last _ _⟩)
  have HTA := Lib.hid (Touch.alloc U w (.cells (bc x).toArray 44))
  have HX := Lib.hid hx
  have HIN := Lib.hid (show (0 : Int) ≤ (b : Int) ∧ (b : Int) < s.d.safe.length by omega)
  clear h hx hb
  go_enter Try.func7, Try.ntmps7
  go_wp2_with fail
  refine (cask_any HC.out b).mono ?_
  rintro e w' ⟨rfl, rfl⟩
  rw [HA.out]
  go_upto_region 4 with (fail)
  generalize w.alloc (.cells (bc x).toArray 44) = W1 at *
  obtain ⟨BX, hBX⟩ : ∃ BX, BX = w.heap.size := ⟨_, rfl⟩
  rw [← hBX] at HCX
  rw [← hBX]
  clear hBX
  obtain ⟨bm, bp, S, hU, h⟩ := HC.out
  have HU := Lib.hid hU
  have HCP := Lib.hid h
  have HCB := Lib.hid (show C < W1.heap.size ∧ W1.cell? ⟨C, 1, none⟩ = some (.map (some bm)) from ⟨h.lt.1, h.cells.2.1⟩)
  obtain ⟨D, hown, hmm⟩ := h.has
  have HO := Lib.hid hown
  have HM := Lib.hid hmm
  clear h hown hmm hU
  refine wp_region_facts_tail 7 (by kernel_rfl) (by kernel_rfl) [[], [(0, some 14)], [(1, some 15)], [(2, some 16)], [], [], [(5, some 19)]] [(0, some 14), (1, some 15), (2, some 16), (3, some 17), (4, some 18), (5, some 19), (6, some 20)] (by kernel_rfl) (by kernel_rfl) (by kernel_rfl) (Touch []) (Touch.refl []) (fun _ _ _ h h' => h.trans h' (fun i hi => .inl hi)) [Is (Value.pointer (some ⟨C, 0, none⟩)), Is (Value.pointer (some ⟨C, 0, none⟩)), Is (Value.pointer (some ⟨C, 1, none⟩)), Is (Value.map (some bm)), Is (Value.int .i64 (b : Int)), Is (Value.agg (bc x).toArray), Is (Value.agg (hcells (x, true)).toArray)] rfl ⟨is_stab _ _, is_stab _ _, is_stab _ _, is_stab _ _, is_stab _ _, is_stab _ _, is_stab _ _, trivial⟩ ⟨?o0, ?o1, ?o2, ?o3, ?o4, ?o5, ?o6, trivial⟩ ?_
  case o0 =>
    intro vals wq hRq hpq
    simp only [List.getD_cons_zero, List.getD_cons_succ, canonP]
    simp only [Oper.gives]
    go_simp
    exact ⟨is_mk _ _, (Touch.refl []) _⟩
  case o1 =>
    intro vals wq hRq hpq
    simp only [factsP, List.getD_cons_zero, List.getD_cons_succ] at hpq
    have f0 := hpq.1
    replace hpq := hpq.2
    clear hpq
    replace f0 : vals 0 = _ := f0
    simp only [List.getD_cons_zero, List.getD_cons_succ, canonP, f0]
    clear f0
    simp only [Oper.gives]
    go_simp
    exact ⟨is_mk _ _, Touch.refl _ _⟩
  case o2 =>
    intro vals wq hRq hpq
    simp only [factsP, List.getD_cons_zero, List.getD_cons_succ] at hpq
    have f1 := hpq.1
    replace hpq := hpq.2
    clear hpq
    replace f1 : vals 1 = _ := f1
    simp only [List.getD_cons_zero, List.getD_cons_succ, canonP, f1]
    clear f1
    simp only [Oper.gives]
    go_simp
    exact ⟨is_mk _ _, Touch.refl _ _⟩
  case o3 =>
    intro vals wq hRq hpq
    simp only [factsP, List.getD_cons_zero, List.getD_cons_succ] at hpq
    have f2 := hpq.1
    replace hpq := hpq.2
    clear hpq
    replace f2 : vals 2 = _ := f2
    simp only [List.getD_cons_zero, List.getD_cons_succ, canonP, f2]
    clear f2
    have hcc : wq.cell? ⟨C, 1, none⟩ = some (.map (some bm)) := (Touch.cell ((Touch.drew [] _).trans hRq (by simp)) HCB.out.1 (by simp)).trans HCB.out.2
    simp only [Oper.gives]
    go_simp
    exact ⟨is_mk _ _, Touch.refl _ _⟩
  case o4 =>
    intro vals wq hRq hpq
    simp only [List.getD_cons_zero, List.getD_cons_succ, canonP]
    simp only [Oper.gives]
    go_simp
    exact ⟨is_mk _ _, (Touch.refl []) _⟩
  case o5 =>
    intro vals wq hRq hpq
    simp only [List.getD_cons_zero, List.getD_cons_succ, canonP]
    have hbx : wq.heap[BX]? = some (.cells (bc x).toArray 44) := (Touch.block ((Touch.drew [] _).trans hRq (by simp)) BX HCX.out.1 (by simp)).trans HCX.out.2
    exact gives_load_row 44 _ rfl BX rfl 44 (bc x).toArray (0, 0) _ hbx Try.underlying44 rfl HSz.out ⟨is_mk _ _, Touch.refl _ _⟩
  case o6 =>
    intro vals wq hRq hpq
    simp only [factsP, List.getD_cons_zero, List.getD_cons_succ] at hpq
    have f5 := hpq.1
    replace hpq := hpq.2
    clear hpq
    replace f5 : vals 5 = _ := f5
    simp only [List.getD_cons_zero, List.getD_cons_succ, canonP, f5]
    clear f5
    exact gives_build 76 _ rfl (hcells (x, true)).toArray (by simp only [List.map_toArray, List.map_cons, List.map_nil]; exact HBH.out) ⟨is_mk _ _, Touch.refl _ _⟩
  intro vals wz hRwz hfwz
  simp only [AllFacts] at hfwz
  have g0 := hfwz.1
  replace hfwz := hfwz.2
  have g1 := hfwz.1
  replace hfwz := hfwz.2
  have g2 := hfwz.1
  replace hfwz := hfwz.2
  have g3 := hfwz.1
  replace hfwz := hfwz.2
  have g4 := hfwz.1
  replace hfwz := hfwz.2
  have g5 := hfwz.1
  replace hfwz := hfwz.2
  have g6 := hfwz.1
  replace hfwz := hfwz.2
  clear hfwz
  replace g0 : vals 0 = _ := g0
  replace g1 : vals 1 = _ := g1
  replace g2 : vals 2 = _ := g2
  replace g3 : vals 3 = _ := g3
  replace g4 : vals 4 = _ := g4
  replace g5 : vals 5 = _ := g5
  replace g6 : vals 6 = _ := g6
  simp only [List.drop_succ_cons, List.drop_zero]
  simp only [canonP, Act.put, List.setIfInBounds_toArray, List.set_cons_succ, List.set_cons_zero, g0, g1, g2, g3, g4, g5, g6]
  clear g0 g1 g2 g3 g4 g5 g6
  have HTW := Lib.hid ((Touch.drew [] W1).trans hRwz (by simp))
  clear hRwz
  refine wpList_mapUpdate_in _ rfl _ _ _ 70 rfl 3 76 keyInt Try.underlying70 _ bm n D rfl (ownsMap_touch HO.out HTW.out (by simp)) (by unfold maxLen; omega) _ _ (ik b) rfl rfl HK.out _ [] (heldElem_mk (x, true) HX.out) ?_
  intro w1 hown1 hturn1
  have HF := Lib.hid (show IsCache w1 C B U (n + 1) { s with f := putF s.f b (x, true) } ∧ Touch U w w1 from by
    refine ⟨⟨bm, bp, S, HU.out, (HCP.out.kept HTW.out (by simp)).turned (Nat.le_succ _) hturn1.grown hown1 (HM.out.put HO.out.isMap HIN.out HX.out)⟩, ?_⟩
    refine (HTA.out.trans HTW.out (by simp)).trans (Touch.grown (S := U) hturn1.grown (fun k e => by cases e; rw [HU.out]; simp)) (fun i hi => .inl hi))
  clear hown1 hturn1
  go_wp2_with fail
  go_ret
  exact ⟨rfl, HF.out⟩
#print axioms cwrite_ok
theorem cwrite_no {w : World} {C B : Nat} {U : List Nat} {n : Nat} {s : CS} (h : IsCache w C B U n s) (b : Int) (hb : s.askI b = 2) (x : Blk) : Calls Try.prog 7 #[.pointer (some ⟨C, 0, none⟩), .int .i64 b, .agg (bc x).toArray] w fun e w' => e = .returned (.int .i64 2) ∧ Grow w w' := by
  generalize (bc x).toArray = X at *
  have HC := Lib.hid (h.grow (Grow.alloc w (.cells X 44)))
  have HA := Lib.hid hb
  clear h hb
  go_enter Try.func7, Try.ntmps7
  go_wp2_with fail
  refine (cask_any HC.out b).mono ?_
  rintro e w' ⟨rfl, rfl⟩
  rw [HA.out]
  go_wp2_with fail
  go_ret
  exact ⟨rfl, Grow.alloc _ _⟩
end Go.Proofs.Ytieknecbheeekaa
