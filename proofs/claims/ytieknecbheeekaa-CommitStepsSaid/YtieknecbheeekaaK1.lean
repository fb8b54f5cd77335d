/- cache: Back, whatever the power. -/
import Derived.Test.YtieknecbheeekaaC5
set_option linter.unusedVariables false
set_option linter.unusedSimpArgs false
namespace Go.Proofs.Ytieknecbheeekaa
open Go.RowKit Go.Maps

set_option maxRecDepth 100000 in
set_option maxHeartbeats 4000000 in
theorem cback_dead {w : World} {C B : Nat} {U : List Nat} {n : Nat} {s : CS} (h : IsCache w C B U n s) (b : Nat) (hb : b < s.d.safe.length) (x : Blk) (hy : s.f b = some (x, true)) (hd : s.d.dead = true) :
    Calls Try.prog 39 #[.pointer (some ⟨C, 0, none⟩), .int .i64 (b : Int)] w fun e w' => e = .returned (.int .i64 30) ∧ Grow w w' := by
  have HC := Lib.hid h
  have HA := Lib.hid (show s.askI b = 0 from if_pos (by omega))
  have hm := (h.elim fun bm h => h.elim fun bp h => h.elim fun S h => h.2.disk.one.2.1)
  have HKB := Lib.hid (show IntOk (b : Int) by unfold IntOk; omega)
  obtain ⟨bm, bp, S, hU, hcp⟩ := HC.out
  have HU := Lib.hid hU
  have HCP := Lib.hid hcp
  obtain ⟨_, c1, _⟩ := hcp.cells
  obtain ⟨D, hown, hmm⟩ := hcp.has
  have HO := Lib.hid hown
  have HM := Lib.hid hmm
  have hz7 := zero77a
  have HSO := Lib.hid (show ∀ y : Hd, y.1.length = 256 → (hcells (zeroB, false)).toArray.size = (hcells y).toArray.size from fun y hy => by rw [List.size_toArray, List.size_toArray, hcells_length zeroHd, hcells_length hy])
  have HFD := Lib.hid (fun y => found1_mk w (hcells (zeroB, false)).toArray y)
  obtain ⟨Z2, hZ2⟩ : ∃ Z2, Z2 = (hcells (zeroB, false)).toArray := ⟨_, rfl⟩
  rw [← hZ2] at hz7 HSO HFD
  clear hZ2
  have HX := Lib.hid (show x.length = 256 from (hmm.dom b (x, true) hy).2)
  have HY := Lib.hid (show (s.f b).getD (zeroB, false) = (x, true) by rw [hy]; rfl)
  have HT := Lib.hid (show (s.f b).isSome = true by rw [hy]; rfl)
  have HYL := Lib.hid (show ((x, true) : Hd).1.length = 256 from HX.out)
  have HSY := Lib.hid (hsize HYL.out)
  have HO1 := Lib.hid (all_oneCell_toArray (hcells_one (x, true)))
  have HWR := Lib.hid (fun (wq : World) (hq : IsDisk wq B S s.d) => write_refused (v := .pointer (some ⟨B, 0, none⟩)) (w := wq) (b : Int) 30 x rfl (fun w' hg => (refuseAt_any (hq.kept (Touch.of_below (S := []) hg) (by simp)) (b : Int)).mono fun e w'' hh => ⟨by rw [hh.1]; congr 2; unfold DS.why; rw [hd, if_pos rfl], hh.2⟩))
  have HKK := Lib.hid (keyOf_ik HKB.out)
  have HSz := Lib.hid (show (Try.prog.info? 44).map (·.size) = some (bc x).length by rw [bc_length, HX.out]; exact size32)
  have HSH := Lib.hid (hsize (y := (x, false)) HX.out)
  have HIN := Lib.hid (show (0 : Int) ≤ (b : Int) ∧ (b : Int) < s.d.safe.length by omega)
  have HHS := Lib.hid (hcells_set HX.out true false)
  clear h hcp hown hmm hy hU hb hd
  go_enter Try.func39, Try.ntmps39
  go_wp2_with fail
  refine (cask_any HC.out b).mono ?_
  rintro e w' ⟨rfl, rfl⟩
  rw [HA.out]
  go_upto_region 5 with (first
    | (at_lookup; refine wpList_lookup_held rfl _ _ rfl bm n _ D s.f rfl HO.out HM.out b HKB.out rfl (x, true) HY.out true HT.out ?_)
    | (refine wpList_store_row rfl 76 _ _ rfl w.heap.size (hcells (x, true)).toArray rfl rfl 76 Z2 (heap_alloc_last _ _) HSY.out (HSO.out (x, true) HYL.out) HO1.out ?_))
  have HF := Lib.hid (HFD.out (x, true))
  clear HFD
  generalize (w.alloc (.cells Z2 76)).setRow w.heap.size (hcells (x, true)).toArray = W2 at *
  have hfl := held_flag HYL.out HF.out.held
  dsimp only at hfl
  obtain ⟨PP, hPP⟩ : ∃ g, g = w.heap.size := ⟨_, rfl⟩
  have HPP := Lib.hid hPP
  rw [← hPP] at hfl
  rw [← hPP]
  have HG2 := Lib.hid HF.out.grow
  have HCX := Lib.hid (show PP < W2.heap.size ∧ W2.heap[PP]? = some (.cells (hcells (x, true)).toArray 76) by rw [hPP]; exact ⟨HF.out.lt, HF.out.held⟩)
  have HCP2 := Lib.hid (HCP.out.kept (Touch.of_below (S := []) HF.out.grow) (by simp))
  have HCB := Lib.hid (show C < W2.heap.size ∧ W2.cell? ⟨C, 0, none⟩ = some (.pointer (some ⟨B, 0, none⟩)) from ⟨HCP2.out.lt.1, HCP2.out.cells.1⟩)
  clear hPP c1 HF
  go_upto_region 7 with (fail)
  clear hfl
  refine wp_region_facts_tail 7 (by kernel_rfl) (by kernel_rfl) [[], [(0, some 31)], [(1, some 32)], [(2, some 33)], [], [], [(5, some 36)]] [(0, some 31), (1, some 32), (2, some 33), (3, some 34), (4, some 35), (5, some 36), (6, some 37)] (by kernel_rfl) (by kernel_rfl) (by kernel_rfl) (Touch []) (Touch.refl []) (fun _ _ _ h h' => h.trans h' (fun i hi => .inl hi)) [Is (Value.pointer (some ⟨C, 0, none⟩)), Is (Value.pointer (some ⟨C, 0, none⟩)), Is (Value.pointer (some ⟨C, 0, none⟩)), Is (Value.pointer (some ⟨B, 0, none⟩)), Is (Value.int .i64 (b : Int)), Is (Value.pointer (some ⟨PP, 0, none⟩)), Is (Value.agg (bc x).toArray)] rfl ⟨is_stab _ _, is_stab _ _, is_stab _ _, is_stab _ _, is_stab _ _, is_stab _ _, is_stab _ _, trivial⟩ ⟨?o0, ?o1, ?o2, ?o3, ?o4, ?o5, ?o6, trivial⟩ ?_
  case o0 =>
    intro vals wq hRq hpq
    simp only [List.getD_cons_zero, List.getD_cons_succ, canonP]
    simp only [Oper.gives]
    go_simp
    exact ⟨is_mk _ _, (Touch.refl []) _⟩
  case o1 =>
    intro vals wq hRq hpq
    simp only [factsP, List.getD_cons_zero, List.getD_cons_succ] at hpq
    have f0 := hpq.1
    replace hpq := hpq.2
    clear hpq
    replace f0 : vals 0 = _ := f0
    simp only [List.getD_cons_zero, List.getD_cons_succ, canonP, f0]
    clear f0
    simp only [Oper.gives]
    go_simp
    exact ⟨is_mk _ _, Touch.refl _ _⟩
  case o2 =>
    intro vals wq hRq hpq
    simp only [factsP, List.getD_cons_zero, List.getD_cons_succ] at hpq
    have f1 := hpq.1
    replace hpq := hpq.2
    clear hpq
    replace f1 : vals 1 = _ := f1
    simp only [List.getD_cons_zero, List.getD_cons_succ, canonP, f1]
    clear f1
    simp only [Oper.gives]
    go_simp
    exact ⟨is_mk _ _, Touch.refl _ _⟩
  case o3 =>
    intro vals wq hRq hpq
    simp only [factsP, List.getD_cons_zero, List.getD_cons_succ] at hpq
    have f2 := hpq.1
    replace hpq := hpq.2
    clear hpq
    replace f2 : vals 2 = _ := f2
    simp only [List.getD_cons_zero, List.getD_cons_succ, canonP, f2]
    clear f2
    have hcc : wq.cell? ⟨C, 0, none⟩ = some (.pointer (some ⟨B, 0, none⟩)) := (Touch.cell ((Touch.drew [] _).trans hRq (by simp)) HCB.out.1 (by simp)).trans HCB.out.2
    simp only [Oper.gives]
    go_simp
    exact ⟨is_mk _ _, Touch.refl _ _⟩
  case o4 =>
    intro vals wq hRq hpq
    simp only [List.getD_cons_zero, List.getD_cons_succ, canonP]
    simp only [Oper.gives]
    go_simp
    exact ⟨is_mk _ _, (Touch.refl []) _⟩
  case o5 =>
    intro vals wq hRq hpq
    simp only [List.getD_cons_zero, List.getD_cons_succ, canonP]
    simp only [Oper.gives]
    go_simp
    exact ⟨is_mk _ _, Touch.refl _ _⟩
  case o6 =>
    intro vals wq hRq hpq
    simp only [factsP, List.getD_cons_zero, List.getD_cons_succ] at hpq
    have f5 := hpq.1
    replace hpq := hpq.2
    clear hpq
    replace f5 : vals 5 = _ := f5
    simp only [List.getD_cons_zero, List.getD_cons_succ, canonP, f5]
    clear f5
    have hbx : wq.heap[PP]? = some (.cells (hcells (x, true)).toArray 76) := (Touch.block ((Touch.drew [] _).trans hRq (by simp)) PP HCX.out.1 (by simp)).trans HCX.out.2
    exact gives_load_mid 44 _ rfl PP 0 rfl (bc x) _ (held_range hbx) Try.underlying44 rfl HSz.out ⟨is_mk _ _, Touch.refl _ _⟩
  intro vals wz hRwz hfwz
  simp only [AllFacts] at hfwz
  have g0 := hfwz.1
  replace hfwz := hfwz.2
  have g1 := hfwz.1
  replace hfwz := hfwz.2
  have g2 := hfwz.1
  replace hfwz := hfwz.2
  have g3 := hfwz.1
  replace hfwz := hfwz.2
  have g4 := hfwz.1
  replace hfwz := hfwz.2
  have g5 := hfwz.1
  replace hfwz := hfwz.2
  have g6 := hfwz.1
  replace hfwz := hfwz.2
  clear hfwz
  replace g0 : vals 0 = _ := g0
  replace g1 : vals 1 = _ := g1
  replace g2 : vals 2 = _ := g2
  replace g3 : vals 3 = _ := g3
  replace g4 : vals 4 = _ := g4
  replace g5 : vals 5 = _ := g5
  replace g6 : vals 6 = _ := g6
  simp only [List.drop_succ_cons, List.drop_zero]
  simp only [canonP, Act.put, List.setIfInBounds_toArray, List.set_cons_succ, List.set_cons_zero, g0, g1, g2, g3, g4, g5, g6]
  clear g0 g1 g2 g3 g4 g5 g6
  have HTW := Lib.hid ((Touch.drew [] W2).trans hRwz (by simp))
  clear hRwz
  go_wp2_with fail
  refine (HWR.out _ (HCP2.out.disk.kept HTW.out (by simp))).mono ?_
  intro e W3 hpost
  obtain ⟨he, hg3⟩ := hpost
  subst he
  have HGF := Lib.hid (Grow.trans HG2.out (Grow.trans (HTW.out.below (Nat.le_refl _) (by simp)) hg3))
  clear hg3
  go_wp2_with fail
  go_ret
  exact ⟨rfl, HGF.out⟩
#print axioms cback_dead
/-- what Back answers -/
def CS.bk (s : CS) (b : Int) : Int := if s.askI b = 0 then (match s.f b with | some (x, true) => s.d.why b | _ => 0) else 2
/-- the cache behind Back -/
def CS.bkS (s : CS) (b : Int) : CS := if s.askI b = 0 then (match s.f b with | some (x, true) => if s.d.dead then s else { s with d := s.d.wrote b.toNat x, f := putF s.f b (x, false) } | _ => s) else s
def BkPost (C B : Nat) (U : List Nat) (n : Nat) (s : CS) (b : Int) (w : World) (e : Ending) (w' : World) : Prop :=
  e = .returned (.int .i64 (s.bk b)) ∧ ∃ U', IsCache w' C B U' (n + 1) (s.bkS b) ∧ Touch U w w' ∧ ∀ k ∈ U', k ∈ U ∨ w.heap.size ≤ k
theorem IsCache.more {w : World} {C B : Nat} {U : List Nat} {n : Nat} {s : CS} (h : IsCache w C B U n s) : IsCache w C B U (n + 1) s := by
  obtain ⟨bm, bp, S, hU, h⟩ := h
  exact ⟨bm, bp, S, hU, { h with
    has := by obtain ⟨D, h1, h2⟩ := h.has; exact ⟨D, ownsMap_mono h1 (Nat.le_succ _), h2⟩
    pin := by obtain ⟨D, h1, h2⟩ := h.pin; exact ⟨D, ownsMap_mono h1 (Nat.le_succ _), h2⟩ }⟩
theorem BkPost.same {C B : Nat} {U : List Nat} {n : Nat} {s : CS} {b : Int} {w : World} (h : IsCache w C B U n s) {c : Int} (h1 : s.bk b = c) (h2 : s.bkS b = s) {e : Ending} {w' : World} (he : e = .returned (.int .i64 c)) (hg : Grow w w') : BkPost C B U n s b w e w' :=
  ⟨by rw [he, h1], U, by rw [h2]; exact (h.kept (Touch.of_below (S := []) hg) (by simp)).more, Touch.of_below hg, fun k hk => .inl hk⟩
theorem cback_full {w : World} {C B : Nat} {U : List Nat} {n : Nat} {s : CS} (h : IsCache w C B U n s) (hn : n ≤ 1000000) (b : Int) (hw : s.d.ws.length ≤ 100000) (ha : 0 ≤ s.d.acts ∧ s.d.acts ≤ 1000000) (hl : 0 ≤ s.d.left ∧ s.d.left ≤ 9223372036854775807) :
    Calls Try.prog 39 #[.pointer (some ⟨C, 0, none⟩), .int .i64 b] w (BkPost C B U n s b w) := by
  by_cases hk : 0 ≤ b ∧ b < s.d.safe.length
  · have h0 : s.askI b = 0 := if_pos hk
    obtain ⟨m, rfl⟩ : ∃ m : Nat, b = (m : Int) := ⟨b.toNat, by omega⟩
    have hm : m < s.d.safe.length := by omega
    by_cases hf : ∃ x, s.f m = some (x, true)
    · obtain ⟨x, hx⟩ := hf
      cases hd : s.d.dead with
      | true =>
        refine (cback_dead h m hm x hx hd).mono ?_
        rintro e w' ⟨he, hg⟩
        exact BkPost.same h (by unfold CS.bk; rw [if_pos h0, hx]; dsimp only; unfold DS.why; rw [hd, if_pos rfl]) (by unfold CS.bkS; rw [if_pos h0, hx]; dsimp only; rw [hd]; rfl) he hg
      | false =>
        refine (cback_dirty h hn m hm x hx hd hw ha hl).mono ?_
        rintro e w' ⟨he, U', h1, h2, h3⟩
        refine ⟨by rw [he]; unfold CS.bk; rw [if_pos h0, hx]; dsimp only; unfold DS.why; rw [hd, if_neg (by simp), if_pos hk], U', ?_, h2, h3⟩
        unfold CS.bkS
        rw [if_pos h0, hx]
        dsimp only
        rw [hd]
        exact h1
    · have hno : ∀ x, s.f m ≠ some (x, true) := fun x e => hf ⟨x, e⟩
      refine (cback_idle h m hm hno).mono ?_
      rintro e w' ⟨he, hg⟩
      cases hx : s.f m with
      | none => exact BkPost.same h (by unfold CS.bk; rw [if_pos h0, hx]) (by unfold CS.bkS; rw [if_pos h0, hx]) he hg
      | some y =>
        obtain ⟨x, t⟩ := y
        cases t with
        | true => exact absurd hx (hno x)
        | false => exact BkPost.same h (by unfold CS.bk; rw [if_pos h0, hx]) (by unfold CS.bkS; rw [if_pos h0, hx]) he hg
  · have h0 : s.askI b = 2 := if_neg hk
    refine (cback_no h b h0).mono ?_
    rintro e w' ⟨he, rfl⟩
    exact BkPost.same h (by unfold CS.bk; rw [h0]; rfl) (by unfold CS.bkS; rw [h0]; rfl) he (Grow.refl _)
#print axioms cback_full
end Go.Proofs.Ytieknecbheeekaa
