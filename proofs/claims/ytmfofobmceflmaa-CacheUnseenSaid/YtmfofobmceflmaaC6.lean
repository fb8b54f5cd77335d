/- cache: Dirty, Clean: the walks. -/
import Derived.Test.YtmfofobmceflmaaC5
import Derived.Test.YtmfofobmceflmaaSort
set_option linter.unusedVariables false
set_option linter.unusedSimpArgs false
namespace Go.Proofs.Ytmfofobmceflmaa
open Go.RowKit Go.Maps

theorem info3 : (Try.prog.info? 3).map (fun i => (i.zero, i.size, i.bytes)) = some (some (.int .i64 0), 1, 8) := by kernel_rfl
theorem sorted_unique : ∀ (a b : List Int), a.Perm b → a.Pairwise (· ≤ ·) → b.Pairwise (· ≤ ·) → a = b := by
  intro a b hp ha hb
  exact List.Perm.eq_of_pairwise (le := (· ≤ ·)) (fun x y _ _ h1 h2 => by omega) ha hb hp
/-- the numbers below N that are chosen, rising -/
def selL (N : Nat) (sel : Int → Bool) : List Int := ((List.range N).filter fun (k : Nat) => sel (k : Int)).map fun (k : Nat) => (k : Int)
theorem selL_mem {N : Nat} {sel : Int → Bool} {i : Int} : i ∈ selL N sel ↔ (0 ≤ i ∧ i < N) ∧ sel i = true := by
  unfold selL
  rw [List.mem_map]
  constructor
  · rintro ⟨k, hk, rfl⟩
    rw [List.mem_filter, List.mem_range] at hk
    exact ⟨by omega, hk.2⟩
  · rintro ⟨h1, h2⟩
    refine ⟨i.toNat, List.mem_filter.2 ⟨List.mem_range.2 (by omega), ?_⟩, by omega⟩
    rw [show ((i.toNat : Nat) : Int) = i by omega]; exact h2
theorem selL_lt (N : Nat) (sel : Int → Bool) : (selL N sel).Pairwise (· < ·) := by
  unfold selL
  rw [List.pairwise_map]
  have h1 : (List.range N).Pairwise (· < ·) := List.pairwise_lt_range
  exact (h1.filter _).imp (fun h => by omega)
theorem selL_nodup (N : Nat) (sel : Int → Bool) : (selL N sel).Nodup := (selL_lt N sel).imp (fun h => by omega)
theorem selL_le (N : Nat) (sel : Int → Bool) : (selL N sel).Pairwise (· ≤ ·) := (selL_lt N sel).imp (fun h => by omega)
theorem nodup_sub : ∀ (a b : List Int), a.Nodup → (∀ x ∈ a, x ∈ b) → a.length ≤ b.length := by
  intro a
  induction a with
  | nil => intro b _ _; simp
  | cons x a ih =>
    intro b hn hs
    have h1 := List.nodup_cons.1 hn
    have hx := hs x (by simp)
    have := ih (b.erase x) h1.2 (fun y hy => (List.mem_erase_of_ne (by rintro rfl; exact h1.1 hy)).2 (hs y (by simp [hy])))
    rw [List.length_erase_of_mem hx] at this
    have := List.length_pos_of_mem hx
    simp; omega
theorem selL_length (N : Nat) (sel : Int → Bool) : (selL N sel).length ≤ N := by
  unfold selL; rw [List.length_map]; exact Nat.le_trans (List.length_filter_le _ _) (by simp)
/-- what was collected so far -/
structure SelIs (N : Nat) (f : Int → Option Hd) (sel : Int → Bool) (left : Lit → Bool) (zs : List Int) : Prop where
  mem : ∀ i, i ∈ zs ↔ sel i = true ∧ left (ik i) = false
  nodup : zs.Nodup
  dom : ∀ i, sel i = true → (f i).isSome = true
  inN : ∀ i, sel i = true → 0 ≤ i ∧ i < N
theorem SelIs.start {N : Nat} {D : DataW Value} {f : Int → Option Hd} (h : HMap N D f) {sel : Int → Bool} (hd : ∀ i, sel i = true → (f i).isSome = true) : SelIs N f sel (Maps.has D) [] where
  mem := fun i => ⟨fun h => (by cases h), fun ⟨h1, h2⟩ => by rw [h.has i, hd i h1] at h2; cases h2⟩
  nodup := List.nodup_nil
  dom := hd
  inN := fun i hi => by obtain ⟨x, hx⟩ := Option.isSome_iff_exists.1 (hd i hi); exact (h.dom i x hx).1
theorem SelIs.other {N : Nat} {f : Int → Option Hd} {sel : Int → Bool} {left : Lit → Bool} {zs : List Int} (h : SelIs N f sel left zs) {x : Int} (hs : sel x = false) : SelIs N f sel (fun z => left z && !z.sameKey (ik x)) zs :=
  { h with
    mem := fun i => by
      rw [h.mem i, ik_same]
      by_cases e : i = x
      · subst e; simp [hs]
      · simp [e] }
theorem SelIs.more {N : Nat} {f : Int → Option Hd} {sel : Int → Bool} {left : Lit → Bool} {zs : List Int} (h : SelIs N f sel left zs) {x : Int} (hs : sel x = true) (hl : left (ik x) = true) : SelIs N f sel (fun z => left z && !z.sameKey (ik x)) (zs ++ [x]) :=
  { h with
    mem := fun i => by
      rw [List.mem_append, List.mem_singleton, h.mem i, ik_same]
      by_cases e : i = x
      · subst e; simp [hs]
      · simp [e]
    nodup := by
      rw [List.nodup_append]
      refine ⟨h.nodup, by simp, fun a ha b hb e => ?_⟩
      rw [List.mem_singleton.1 hb] at e
      subst e
      have := ((h.mem _).1 ha).2
      rw [hl] at this; cases this }
theorem SelIs.done {N : Nat} {f : Int → Option Hd} {sel : Int → Bool} {left : Lit → Bool} {zs : List Int} (h : SelIs N f sel left zs) (hl : ∀ l, left l = false) : sortI zs = selL N sel := by
  have hp : zs.Perm (selL N sel) := (List.perm_ext_iff_of_nodup h.nodup (selL_nodup N sel)).2 (fun i => by rw [h.mem i, selL_mem]; exact ⟨fun h1 => ⟨h.inN i h1.1, h1.1⟩, fun h1 => ⟨h1.2, hl _⟩⟩)
  exact sorted_unique _ _ ((sortI_perm zs).trans hp) (sortI_sorted _) (selL_le _ _)
theorem SelIs.len {N : Nat} {f : Int → Option Hd} {sel : Int → Bool} {left : Lit → Bool} {zs : List Int} (h : SelIs N f sel left zs) : zs.length ≤ N := by
  have := nodup_sub zs (selL N fun _ => true) h.nodup (fun i hi => selL_mem.2 ⟨h.inN i ((h.mem i).1 hi).1, rfl⟩)
  exact Nat.le_trans this (selL_length _ _)
def SelPost (N : Nat) (sel : Int → Bool) (w : World) (e : Ending) (w' : World) : Prop := ∃ v, e = .returned v ∧ IRow w' v (selL N sel) ∧ Grow w w' ∧ ∀ g, v.ownBlock = some g → w.heap.size ≤ g
/-- a round's state -/
structure SInv (N : Nat) (f : Int → Option Hd) (sel : Int → Bool) (D : DataW Value) (bm n : Nat) (w : World) (left : Lit → Bool) (cnt : Nat) (zs : List Int) (v5 : Value) (wr : World) : Prop where
  rng : wr.ranges Try.prog 3 heldElem bm w.heap.size n D left cnt
  row : IRow wr v5 zs
  is : SelIs N f sel left zs
  grow : Grow w wr
  vl : ∀ g, v5.ownBlock = some g → w.heap.size < g
theorem SInv.later {N : Nat} {f : Int → Option Hd} {sel : Int → Bool} {D : DataW Value} {bm n : Nat} {w : World} {left left' : Lit → Bool} {cnt cnt' : Nat} {zs : List Int} {v5 : Value} {wr w1 w2 : World} (h : SInv N f sel D bm n w left cnt zs v5 wr) (hr : w1.ranges Try.prog 3 heldElem bm w.heap.size n D left' cnt') (hg : wr.grownBy w1 (some w.heap.size)) (hi : SelIs N f sel left' zs) (ht : Touch [] w1 w2) : SInv N f sel D bm n w left' cnt' zs v5 w2 where
  rng := ranges_touch hr ht (by simp) (by simp)
  row := (Row.kept h.row (Touch.grown (S := [w.heap.size]) hg (fun k e => by cases e; simp)) (fun g e hm => by have := h.vl g e; rw [List.mem_singleton.1 hm] at this; omega)).kept ht (by simp)
  is := hi
  grow := Grow.trans (Below.trans h.grow ((Touch.grown (S := [w.heap.size]) hg (fun k e => by cases e; simp)).below h.grow.size (by simp))) (ht.below (Nat.le_refl _) (by simp))
  vl := h.vl
theorem SInv.app {N : Nat} {f : Int → Option Hd} {sel : Int → Bool} {D : DataW Value} {bm n : Nat} {w : World} {left left' : Lit → Bool} {cnt cnt' : Nat} {zs : List Int} {v5 v' : Value} {wr w1 w2 wa : World} {z : Int} (h : SInv N f sel D bm n w left cnt zs v5 wr) (hbm : bm < w.heap.size) (hr : w1.ranges Try.prog 3 heldElem bm w.heap.size n D left' cnt') (hg : wr.grownBy w1 (some w.heap.size)) (hi : SelIs N f sel left' (zs ++ [z])) (ht : Touch [] w1 w2)
    (ha : AppAtE 3 1 w2 v5 (zs.map icell ++ [icell z]) v' wa) (hta : Touch (ownL v5) w2 wa) : SInv N f sel D bm n w left' cnt' (zs ++ [z]) v' wa where
  rng := ranges_touch (ranges_touch hr ht (by simp) (by simp)) hta (fun hm => by have := h.vl _ (ownL_mem.1 hm); omega) (fun hm => by have := h.vl _ (ownL_mem.1 hm); omega)
  row := by unfold IRow; rw [List.map_append]; exact ha.1
  is := hi
  grow := by
    have hg2 : Grow w w2 := Grow.trans (Below.trans h.grow ((Touch.grown (S := [w.heap.size]) hg (fun k e => by cases e; simp)).below h.grow.size (by simp))) (ht.below (Nat.le_refl _) (by simp))
    exact Below.trans hg2 (hta.below hg2.size (fun j hj => by have := h.vl _ (ownL_mem.1 hj); omega))
  vl := fun g e => by
    rcases ha.2 with h1 | ⟨g', h1, h2⟩
    · exact h.vl g (h1 ▸ e)
    · rw [e] at h1; cases h1
      have h3 := hr.lt
      have h4 := ht.size
      omega
/-- what is held, in one letter -/
structure HB where
  h : Hd
def isDirty (f : Int → Option Hd) (i : Int) : Bool := match f i with | some (_, t) => t | none => false
def isClean (f : Int → Option Hd) (p : Int → Bool) (i : Int) : Bool := match f i with | some (_, t) => !t && !p i | none => false
theorem isDirty_some {f : Int → Option Hd} {i : Int} {y : Hd} (h : f i = some y) : isDirty f i = y.2 := by unfold isDirty; rw [h]
theorem isClean_some {f : Int → Option Hd} {p : Int → Bool} {i : Int} {y : Hd} (h : f i = some y) : isClean f p i = (!y.2 && !p i) := by unfold isClean; rw [h]
theorem isDirty_dom {f : Int → Option Hd} (i : Int) (h : isDirty f i = true) : (f i).isSome = true := by
  unfold isDirty at h
  cases e : f i with
  | none => rw [e] at h; cases h
  | some y => rfl
theorem isClean_dom {f : Int → Option Hd} {p : Int → Bool} (i : Int) (h : isClean f p i = true) : (f i).isSome = true := by
  unfold isClean at h
  cases e : f i with
  | none => rw [e] at h; cases h
  | some y => rfl
/-- behind a round's look at an entry -/
theorem touch_held (w1 : World) (Z2 : Array Value) (y : Hd) : Touch [] w1 ((w1.alloc (.cells Z2 77)).setRow w1.heap.size (hcells y).toArray) := Touch.of_below (found1_mk w1 Z2 y).grow
set_option maxRecDepth 100000 in
set_option maxHeartbeats 4000000 in
theorem dirty_ok {w : World} {C B : Nat} {U : List Nat} {n : Nat} {s : CS} (h : IsCache w C B U n s) : Calls Try.prog 10 #[.pointer (some ⟨C, 0, none⟩)] w (SelPost s.d.safe.length (isDirty s.f) w) := by
  have HC := Lib.hid h
  obtain ⟨bm, bp, S, hU, hcp⟩ := h
  have hN := hcp.disk.one.2.1
  obtain ⟨_, c1, _⟩ := hcp.cells
  obtain ⟨D, hown, hmm⟩ := hcp.has
  have HO := Lib.hid hown
  have HM := Lib.hid hmm
  have HBM := Lib.hid hcp.lt.2.1
  obtain ⟨i0, hi0, hz0, hz1, hz2⟩ := info_parts info3
  have HI0 := Lib.hid hi0
  have hz7 := zero77a
  have HSO := Lib.hid (show ∀ y : Hd, y.1.length = 256 → (hcells (zeroB, false)).toArray.size = (hcells y).toArray.size from fun y hy => by rw [List.size_toArray, List.size_toArray, hcells_length zeroHd, hcells_length hy])
  generalize (hcells (zeroB, false)).toArray = Z2 at *
  generalize s.d.safe.length = N at *
  clear hcp hown hmm hi0 hU
  go_enter Try.func10, Try.ntmps10
  go_wp2_with fail
  refine (cmade_yes HC.out).mono ?_
  rintro e w' ⟨rfl, rfl⟩
  go_wp2_with (first | (at_range; refine wpList_range_own _ rfl _ 55 rfl 3 77 keyInt Try.underlying55 _ bm n D rfl HO.out ?_; intro w0 hrg0 hg0 hs0))
  go_frame
  have HI := Lib.hid (show SInv N s.f (isDirty s.f) D bm n w (Maps.has D) (Maps.size D) [] (.slice none 0 0) w0 from { rng := hrg0, row := rowNil _ _ _, is := SelIs.start HM.out isDirty_dom, grow := (Touch.grown (S := []) hg0 (by simp)).below (Nat.le_refl _) (by simp), vl := fun g e => (by cases e) })
  clear hrg0 hg0 hs0 c1
  go_loopw [3] (fun t5 wr => ∃ (left : Lit → Bool) (cnt : Nat) (zs : List Int), (∃ a5 n5 c5, t5 = .slice a5 n5 c5) ∧ Hid (SInv N s.f (isDirty s.f) D bm n w left cnt zs t5 wr)) (fun _ wr => wr.rangeLeft bm w.heap.size)
  case atStart => exact ⟨_, _, [], ⟨none, 0, 0, rfl⟩, HI⟩
  case round =>
    obtain ⟨left, cnt, zs, ⟨a5, n5, c5, rfl⟩, HI⟩ := hrel
    go_wp2_with (first | (at_next; refine wpList_next_ranges _ rfl _ rfl 3 keyInt heldElem (fun x : Int => Value.int .i64 x) (fun y : HB => Value.agg (hcells y.h).toArray) (fun key l hk => by obtain ⟨r, _, h2, _⟩ := keyOf_ik_inv hk; exact ⟨r, h2⟩) (fun v y hv => by obtain ⟨x, _, h2, _⟩ := heldElem_inv hv; exact ⟨⟨x⟩, h2⟩) bm w.heap.size n _ _ _ rfl HI.out.rng ?_ ?_))
    · intro _ hl0
      have HF := Lib.hid (HI.out.is.done hl0)
      have HLn := Lib.hid (show zs.length ≤ 1000000 by have := HI.out.is.len; omega)
      clear hl0
      go_wp2_with fail
      refine (sort_ints HI.out.row HLn.out).mono ?_
      intro e w2 hpost
      obtain ⟨he, hr2, ht2⟩ := hpost
      subst he
      have HR := Lib.hid (show IRow w2 (.slice a5 n5 c5) (selL N (isDirty s.f)) by rw [← HF.out]; exact hr2)
      have HG := Lib.hid (show Grow w w2 from Below.trans HI.out.grow (ht2.below HI.out.grow.size (fun j hj => by have := HI.out.vl _ (ownL_mem.1 hj); omega)))
      have HV := Lib.hid (show ∀ g, (Value.slice a5 n5 c5).ownBlock = some g → w.heap.size ≤ g from fun g e => by have := HI.out.vl g e; omega)
      clear hr2 ht2
      go_wp2_with fail
      go_ret
      exact ⟨_, rfl, HR.out, HG.out, HV.out⟩
    · intro xb yy l0 y1 y2 w1 cnt1 hkey hlk hv hat hrg1 hlt hg1 hs1 hen
      generalize yy.h = y at *
      clear yy
      obtain ⟨xi, hxok, hxe, hl0⟩ := keyOf_ik_inv hkey
      cases hxe
      subst hl0
      obtain ⟨y', hyl, hye, hy1⟩ := heldElem_inv hv
      obtain rfl : y = y' := hvv_inj hye
      have HXO := Lib.hid hxok
      have HFX := Lib.hid (show s.f xb = some y from HM.out.of_at (fun z => by rw [hat z]; exact (Prod.ext_iff.1 hy1).1))
      have HYL := Lib.hid hyl
      have HR1 := Lib.hid hrg1
      have HG1 := Lib.hid hg1
      have HLT := Lib.hid hlt
      have HLK := Lib.hid hlk
      have HSY := Lib.hid (hsize hyl)
      have HO1 := Lib.hid (all_oneCell_toArray (hcells_one y))
      have HTH := Lib.hid (touch_held w1 Z2 y)
      have HF1 := Lib.hid (found1_mk w1 Z2 y)
      have HRW2 := Lib.hid (show IRow ((w1.alloc (.cells Z2 77)).setRow w1.heap.size (hcells y).toArray) (.slice a5 n5 c5) zs from (Row.kept HI.out.row (Touch.grown (S := [w.heap.size]) hg1 (fun k e => by cases e; simp)) (fun g e hm => by have := HI.out.vl g e; rw [List.mem_singleton.1 hm] at this; omega)).kept HTH.out (by simp))
      have HGW := Lib.hid (show Grow w ((w1.alloc (.cells Z2 77)).setRow w1.heap.size (hcells y).toArray) from Grow.trans (Below.trans HI.out.grow ((Touch.grown (S := [w.heap.size]) hg1 (fun k e => by cases e; simp)).below HI.out.grow.size (by simp))) HF1.out.grow)
      clear hkey hlk hv hat hrg1 hg1 hlt hs1 hyl hye hy1 hxok
      go_upto_region 7 with (refine wpList_store_row rfl 77 _ _ rfl w1.heap.size (hcells y).toArray rfl rfl 77 Z2 (heap_alloc_last _ _) HSY.out (HSO.out y HYL.out) HO1.out ?_)
      have HFL := Lib.hid (held_flag HYL.out HF1.out.held)
      generalize (w1.alloc (.cells Z2 77)).setRow w1.heap.size (hcells y).toArray = W2 at *
      clear hen
      have hflag := HFL.out
      clear HFL
      have HSel := Lib.hid (isDirty_some HFX.out)
      cases hyt : y.2 with
      | true =>
        rw [hyt] at hflag HSel
        have HI1 := Lib.hid (HI.out.is.more HSel.out HLK.out)
        clear hyt
        go_wp2_with (first | (at_builtin; refine wpList_append_row rfl _ _ 28 rfl 3 i0 (.int .i64 0) 1 8 Try.underlying28 HI0.out hz0 hz1 hz2 rfl (by omega) (.slice a5 n5 c5) (zs.map icell) rfl (Row.kept HRW2.out (Touch.alloc [] _ _) (by simp)) _ 1 (icell xb) rfl rfl (new_cells _ _ _) (fun u hu => by rw [List.mem_singleton.1 hu]; rfl) (by rw [List.length_map]; have := HI.out.is.len; omega) (by omega) ?_; intro v' wa happ htch))
        have HI2 := Lib.hid (HI.out.app HBM.out HR1.out HG1.out HI1.out (HTH.out.trans (Touch.alloc [] _ _) (by simp)) happ htch)
        clear happ htch
        go_roundw
        case rel =>
          obtain ⟨aa, cc, hh⟩ := HI2.out.row.len
          exact ⟨_, _, _, ⟨aa, _, cc, hh⟩, HI2⟩
        case measure => rw [HI2.out.rng.left_eq, HI.out.rng.left_eq]; exact HLT.out
      | false =>
        rw [hyt] at hflag HSel
        have HI1 := Lib.hid (HI.out.is.other HSel.out)
        clear hyt
        have HI2 := Lib.hid (HI.out.later HR1.out HG1.out HI1.out HTH.out)
        go_wp2_with fail
        go_roundw
        case rel => exact ⟨_, _, _, ⟨a5, n5, c5, rfl⟩, HI2⟩
        case measure => rw [HI2.out.rng.left_eq, HI.out.rng.left_eq]; exact HLT.out
#print axioms dirty_ok
set_option maxRecDepth 100000 in
set_option maxHeartbeats 4000000 in
theorem clean_ok {w : World} {C B : Nat} {U : List Nat} {n : Nat} {s : CS} (h : IsCache w C B U n s) : Calls Try.prog 11 #[.pointer (some ⟨C, 0, none⟩)] w (SelPost s.d.safe.length (isClean s.f s.p) w) := by
  have HC := Lib.hid h
  obtain ⟨bm, bp, S, hU, hcp⟩ := h
  have hN := hcp.disk.one.2.1
  obtain ⟨_, c1, _⟩ := hcp.cells
  obtain ⟨D, hown, hmm⟩ := hcp.has
  have HO := Lib.hid hown
  have HM := Lib.hid hmm
  have HBM := Lib.hid hcp.lt.2.1
  obtain ⟨i0, hi0, hz0, hz1, hz2⟩ := info_parts info3
  have HI0 := Lib.hid hi0
  have hz7 := zero77a
  have HSO := Lib.hid (show ∀ y : Hd, y.1.length = 256 → (hcells (zeroB, false)).toArray.size = (hcells y).toArray.size from fun y hy => by rw [List.size_toArray, List.size_toArray, hcells_length zeroHd, hcells_length hy])
  generalize (hcells (zeroB, false)).toArray = Z2 at *
  generalize s.d.safe.length = N at *
  clear hcp hown hmm hi0 hU
  go_enter Try.func11, Try.ntmps11
  go_wp2_with fail
  refine (cmade_yes HC.out).mono ?_
  rintro e w' ⟨rfl, rfl⟩
  go_wp2_with (first | (at_range; refine wpList_range_own _ rfl _ 55 rfl 3 77 keyInt Try.underlying55 _ bm n D rfl HO.out ?_; intro w0 hrg0 hg0 hs0))
  go_frame
  have HI := Lib.hid (show SInv N s.f (isClean s.f s.p) D bm n w (Maps.has D) (Maps.size D) [] (.slice none 0 0) w0 from { rng := hrg0, row := rowNil _ _ _, is := SelIs.start HM.out isClean_dom, grow := (Touch.grown (S := []) hg0 (by simp)).below (Nat.le_refl _) (by simp), vl := fun g e => (by cases e) })
  clear hrg0 hg0 hs0 c1
  go_loopw [3] (fun t5 wr => ∃ (left : Lit → Bool) (cnt : Nat) (zs : List Int), (∃ a5 n5 c5, t5 = .slice a5 n5 c5) ∧ Hid (SInv N s.f (isClean s.f s.p) D bm n w left cnt zs t5 wr)) (fun _ wr => wr.rangeLeft bm w.heap.size)
  case atStart => exact ⟨_, _, [], ⟨none, 0, 0, rfl⟩, HI⟩
  case round =>
    obtain ⟨left, cnt, zs, ⟨a5, n5, c5, rfl⟩, HI⟩ := hrel
    go_wp2_with (first | (at_next; refine wpList_next_ranges _ rfl _ rfl 3 keyInt heldElem (fun x : Int => Value.int .i64 x) (fun y : HB => Value.agg (hcells y.h).toArray) (fun key l hk => by obtain ⟨r, _, h2, _⟩ := keyOf_ik_inv hk; exact ⟨r, h2⟩) (fun v y hv => by obtain ⟨x, _, h2, _⟩ := heldElem_inv hv; exact ⟨⟨x⟩, h2⟩) bm w.heap.size n _ _ _ rfl HI.out.rng ?_ ?_))
    · intro _ hl0
      have HF := Lib.hid (HI.out.is.done hl0)
      have HLn := Lib.hid (show zs.length ≤ 1000000 by have := HI.out.is.len; omega)
      clear hl0
      go_wp2_with fail
      refine (sort_ints HI.out.row HLn.out).mono ?_
      intro e w2 hpost
      obtain ⟨he, hr2, ht2⟩ := hpost
      subst he
      have HR := Lib.hid (show IRow w2 (.slice a5 n5 c5) (selL N (isClean s.f s.p)) by rw [← HF.out]; exact hr2)
      have HG := Lib.hid (show Grow w w2 from Below.trans HI.out.grow (ht2.below HI.out.grow.size (fun j hj => by have := HI.out.vl _ (ownL_mem.1 hj); omega)))
      have HV := Lib.hid (show ∀ g, (Value.slice a5 n5 c5).ownBlock = some g → w.heap.size ≤ g from fun g e => by have := HI.out.vl g e; omega)
      clear hr2 ht2
      go_wp2_with fail
      go_ret
      exact ⟨_, rfl, HR.out, HG.out, HV.out⟩
    · intro xb yy l0 y1 y2 w1 cnt1 hkey hlk hv hat hrg1 hlt hg1 hs1 hen
      generalize yy.h = y at *
      clear yy
      obtain ⟨xi, hxok, hxe, hl0⟩ := keyOf_ik_inv hkey
      cases hxe
      subst hl0
      obtain ⟨y', hyl, hye, hy1⟩ := heldElem_inv hv
      obtain rfl : y = y' := hvv_inj hye
      have HXO := Lib.hid hxok
      have HFX := Lib.hid (show s.f xb = some y from HM.out.of_at (fun z => by rw [hat z]; exact (Prod.ext_iff.1 hy1).1))
      have HYL := Lib.hid hyl
      have HR1 := Lib.hid hrg1
      have HG1 := Lib.hid hg1
      have HLT := Lib.hid hlt
      have HLK := Lib.hid hlk
      have HSY := Lib.hid (hsize hyl)
      have HO1 := Lib.hid (all_oneCell_toArray (hcells_one y))
      have HTH := Lib.hid (touch_held w1 Z2 y)
      have HF1 := Lib.hid (found1_mk w1 Z2 y)
      have HRW2 := Lib.hid (show IRow ((w1.alloc (.cells Z2 77)).setRow w1.heap.size (hcells y).toArray) (.slice a5 n5 c5) zs from (Row.kept HI.out.row (Touch.grown (S := [w.heap.size]) hg1 (fun k e => by cases e; simp)) (fun g e hm => by have := HI.out.vl g e; rw [List.mem_singleton.1 hm] at this; omega)).kept HTH.out (by simp))
      have HGW := Lib.hid (show Grow w ((w1.alloc (.cells Z2 77)).setRow w1.heap.size (hcells y).toArray) from Grow.trans (Below.trans HI.out.grow ((Touch.grown (S := [w.heap.size]) hg1 (fun k e => by cases e; simp)).below HI.out.grow.size (by simp))) HF1.out.grow)
      clear hkey hlk hv hat hrg1 hg1 hlt hs1 hyl hye hy1 hxok
      go_upto_region 7 with (refine wpList_store_row rfl 77 _ _ rfl w1.heap.size (hcells y).toArray rfl rfl 77 Z2 (heap_alloc_last _ _) HSY.out (HSO.out y HYL.out) HO1.out ?_)
      have HFL := Lib.hid (held_flag HYL.out HF1.out.held)
      generalize (w1.alloc (.cells Z2 77)).setRow w1.heap.size (hcells y).toArray = W2 at *
      clear hen
      have hflag := HFL.out
      clear HFL
      have HSel := Lib.hid (isClean_some (p := s.p) HFX.out)
      cases hyt : y.2 with
      | true =>
        rw [hyt] at hflag HSel
        have HI1 := Lib.hid (HI.out.is.other (x := xb) HSel.out)
        clear hyt
        have HI2 := Lib.hid (HI.out.later HR1.out HG1.out HI1.out HTH.out)
        go_wp2_with fail
        go_roundw
        case rel => exact ⟨_, _, _, ⟨a5, n5, c5, rfl⟩, HI2⟩
        case measure => rw [HI2.out.rng.left_eq, HI.out.rng.left_eq]; exact HLT.out
      | false =>
        rw [hyt] at hflag HSel
        clear hyt
        have HPN := Lib.hid (cpins_any (HC.out.grow HGW.out) xb HXO.out)
        go_wp2_with fail
        refine HPN.out.mono ?_
        intro e w4 hpost
        obtain ⟨he, hg4⟩ := hpost
        subst he
        have HG4 := Lib.hid hg4
        have HRW4 := Lib.hid (show IRow w4 (.slice a5 n5 c5) zs from Row.kept HRW2.out (Touch.of_below (S := []) hg4) (by simp))
        clear hg4 hflag
        cases hpp : s.p xb with
        | true =>
          rw [hpp] at HSel
          have HI1 := Lib.hid (HI.out.is.other (x := xb) HSel.out)
          clear hpp
          have HI2 := Lib.hid (HI.out.later HR1.out HG1.out HI1.out (HTH.out.trans (Touch.of_below (S := []) HG4.out) (by simp)))
          go_wp2_with fail
          go_roundw
          case rel => exact ⟨_, _, _, ⟨a5, n5, c5, rfl⟩, HI2⟩
          case measure => rw [HI2.out.rng.left_eq, HI.out.rng.left_eq]; exact HLT.out
        | false =>
          rw [hpp] at HSel
          have HI1 := Lib.hid (HI.out.is.more (x := xb) HSel.out HLK.out)
          clear hpp
          go_wp2_with (first | (at_builtin; refine wpList_append_row rfl _ _ 28 rfl 3 i0 (.int .i64 0) 1 8 Try.underlying28 HI0.out hz0 hz1 hz2 rfl (by omega) (.slice a5 n5 c5) (zs.map icell) rfl (Row.kept HRW4.out (Touch.alloc [] _ _) (by simp)) _ 1 (icell xb) rfl rfl (new_cells _ _ _) (fun u hu => by rw [List.mem_singleton.1 hu]; rfl) (by rw [List.length_map]; have := HI.out.is.len; omega) (by omega) ?_; intro v' wa happ htch))
          have HI2 := Lib.hid (HI.out.app HBM.out HR1.out HG1.out HI1.out ((HTH.out.trans (Touch.of_below (S := []) HG4.out) (by simp)).trans (Touch.alloc [] _ _) (by simp)) happ htch)
          clear happ htch
          go_roundw
          case rel =>
            obtain ⟨aa, cc, hh⟩ := HI2.out.row.len
            exact ⟨_, _, _, ⟨aa, _, cc, hh⟩, HI2⟩
          case measure => rw [HI2.out.rng.left_eq, HI.out.rng.left_eq]; exact HLT.out
#print axioms clean_ok
end Go.Proofs.Ytmfofobmceflmaa
