/- revoke.Table: Of: the walk. -/
import Derived.Test.YtbpejjgjjjmlkaaR3
import Derived.Test.YtbpejjgjjjmlkaaSort
set_option linter.unusedVariables false
set_option linter.unusedSimpArgs false
namespace Go.Proofs.Ytbpejjgjjjmlkaa
open Go.RowKit Go.Maps

theorem ranges_touch {H : Type} {P : Program} {k : TypeId} {R : Value → Option (DataW H × List MemPlace)} {w w' : World} {b r n : Nat} {D : DataW H} {left : Lit → Bool} {cnt : Nat} (h : w.ranges P k R b r n D left cnt) {T : List Nat} (ht : Touch T w w') (hb : b ∉ T) (hr : r ∉ T) : w'.ranges P k R b r n D left cnt := by
  obtain ⟨es, clock, since, seen, c0, h1, h2, h3, h4, h5, h6⟩ := h
  exact ⟨es, clock, since, seen, c0, (ht.block b (Array.getElem?_eq_some_iff.1 h1).1 hb).trans h1, h2, h3, h4, (ht.block r (Array.getElem?_eq_some_iff.1 h5).1 hr).trans h5, h6⟩
theorem info3 : (Try.prog.info? 3).map (fun i => (i.zero, i.size, i.bytes)) = some (some (.int .i64 0), 1, 8) := by kernel_rfl
theorem sorted_unique : ∀ (a b : List Int), a.Perm b → a.Pairwise (· ≤ ·) → b.Pairwise (· ≤ ·) → a = b := by
  intro a b hp ha hb
  exact List.Perm.eq_of_pairwise (le := (· ≤ ·)) (fun x y _ _ h1 h2 => by omega) ha hb hp
/-- the blocks of a number's records -/
def ofR (m : List Rc) (s : Nat) : List Int := (m.filter fun r => decide (r.2 = s)).map (·.1)
theorem ofR_mem {m : List Rc} {s : Nat} {b : Int} : b ∈ ofR m s ↔ (b, s) ∈ m := by
  unfold ofR
  rw [List.mem_map]
  constructor
  · rintro ⟨r, hr, rfl⟩
    rw [List.mem_filter] at hr
    have := of_decide_eq_true hr.2
    rw [← this]; exact hr.1
  · intro h
    exact ⟨(b, s), List.mem_filter.2 ⟨h, by simp⟩, rfl⟩
theorem ofR_nodup {m : List Rc} (h : m.Nodup) (s : Nat) : (ofR m s).Nodup := by
  unfold ofR
  rw [List.Nodup, List.pairwise_map]
  have h1 : (m.filter fun r => decide (r.2 = s)).Pairwise (· ≠ ·) := h.filter _
  refine List.Pairwise.imp_of_mem (fun {a b} ha hb hne he => hne ?_) h1
  have h2 := of_decide_eq_true (List.mem_filter.1 ha).2
  have h3 := of_decide_eq_true (List.mem_filter.1 hb).2
  exact Prod.ext he (by rw [h2, h3])
/-- what was collected -/
structure OfIs (m : List Rc) (s : Nat) (left : Lit → Bool) (zs : List Int) : Prop where
  mem : ∀ b, b ∈ zs ↔ Seen m left (b, s)
  nodup : zs.Nodup
theorem OfIs.start {D : DataW Unit} {m : List Rc} (h : SetOf D m) (s : Nat) : OfIs m s (Maps.has D) [] := ⟨fun b => by rw [← seen_start h (b, s)]; simp, List.nodup_nil⟩
theorem OfIs.other {m : List Rc} {s : Nat} {left : Lit → Bool} {zs : List Int} (h : OfIs m s left zs) (hok : ∀ r ∈ m, RcOk r) {x : Rc} (hx : x ∈ m) (hs : x.2 ≠ s) : OfIs m s (fun z => left z && !z.sameKey (kl x)) zs :=
  ⟨fun b => by rw [h.mem b, ← seen_step hok hx]; exact ⟨.inl, fun h => by rcases h with h | h; exact h; exact absurd (by rw [← h]) hs⟩, h.nodup⟩
theorem OfIs.more {m : List Rc} {s : Nat} {left : Lit → Bool} {zs : List Int} (h : OfIs m s left zs) (hok : ∀ r ∈ m, RcOk r) {x : Rc} (hx : x ∈ m) (hs : x.2 = s) (hl : left (kl x) = true) : OfIs m s (fun z => left z && !z.sameKey (kl x)) (zs ++ [x.1]) := by
  subst hs
  refine ⟨fun b => ?_, ?_⟩
  · rw [List.mem_append, List.mem_singleton, h.mem b, ← seen_step hok hx]
    constructor
    · rintro (h | h)
      · exact .inl h
      · exact .inr (by rw [h])
    · rintro (h | h)
      · exact .inl h
      · exact .inr (by rw [← h])
  · rw [List.nodup_append]
    refine ⟨h.nodup, by simp, fun a ha b hb e => ?_⟩
    rw [List.mem_singleton.1 hb] at e
    subst e
    have := ((h.mem _).1 ha).2
    rw [show ((x.1, x.2) : Rc) = x from rfl, hl] at this
    cases this
theorem OfIs.done {m : List Rc} {s : Nat} {left : Lit → Bool} {zs : List Int} (h : OfIs m s left zs) (hn : m.Nodup) (hl : ∀ l, left l = false) : sortI zs = sortI (ofR m s) := by
  have hp : zs.Perm (ofR m s) := (List.perm_ext_iff_of_nodup h.nodup (ofR_nodup hn s)).2 (fun b => by rw [h.mem b, ofR_mem, seen_end hl])
  exact sorted_unique _ _ ((sortI_perm zs).trans (hp.trans (sortI_perm _).symm)) (sortI_sorted _) (sortI_sorted _)
theorem nodup_sub : ∀ (a b : List Int), a.Nodup → (∀ x ∈ a, x ∈ b) → a.length ≤ b.length := by
  intro a
  induction a with
  | nil => intro b _ _; simp
  | cons x a ih =>
    intro b hn hs
    have h1 := List.nodup_cons.1 hn
    have hx := hs x (by simp)
    have := ih (b.erase x) h1.2 (fun y hy => (List.mem_erase_of_ne (by rintro rfl; exact h1.1 hy)).2 (hs y (by simp [hy])))
    rw [List.length_erase_of_mem hx] at this
    have := List.length_pos_of_mem hx
    simp; omega
theorem OfIs.len {m : List Rc} {s : Nat} {left : Lit → Bool} {zs : List Int} (h : OfIs m s left zs) : zs.length ≤ m.length := by
  have := nodup_sub zs (m.map (·.1)) h.nodup (fun b hb => List.mem_map.2 ⟨(b, s), ((h.mem b).1 hb).1, rfl⟩)
  rwa [List.length_map] at this
def OfPost (m : List Rc) (s : Nat) (w : World) (e : Ending) (w' : World) : Prop := ∃ v, e = .returned v ∧ IRow w' v (sortI (ofR m s)) ∧ Grow w w' ∧ ∀ g, v.ownBlock = some g → w.heap.size ≤ g
/-- a round's state -/
structure OInv (m : List Rc) (s : Nat) (D : DataW Unit) (bm n : Nat) (w : World) (left : Lit → Bool) (cnt : Nat) (zs : List Int) (v5 : Value) (wr : World) : Prop where
  rng : wr.ranges Try.prog 60 (unitElem (H := Unit)) bm w.heap.size n D left cnt
  row : IRow wr v5 zs
  is : OfIs m s left zs
  grow : Grow w wr
  vl : ∀ g, v5.ownBlock = some g → w.heap.size < g
theorem OInv.later {m : List Rc} {s : Nat} {D : DataW Unit} {bm n : Nat} {w : World} {left left' : Lit → Bool} {cnt cnt' : Nat} {zs : List Int} {v5 : Value} {wr w1 w2 : World} (h : OInv m s D bm n w left cnt zs v5 wr) (hbm : bm < w.heap.size) (hr : w1.ranges Try.prog 60 (unitElem (H := Unit)) bm w.heap.size n D left' cnt') (hg : wr.grownBy w1 (some w.heap.size)) (hi : OfIs m s left' zs) (ht : Touch [] w1 w2) : OInv m s D bm n w left' cnt' zs v5 w2 where
  rng := ranges_touch hr ht (by simp) (by simp)
  row := (Row.kept h.row (Touch.grown (S := [w.heap.size]) hg (fun k e => by cases e; simp)) (fun g e hm => by have := h.vl g e; rw [List.mem_singleton.1 hm] at this; omega)).kept ht (by simp)
  is := hi
  grow := Grow.trans (Below.trans h.grow ((Touch.grown (S := [w.heap.size]) hg (fun k e => by cases e; simp)).below h.grow.size (by simp))) (ht.below (Nat.le_refl _) (by simp))
  vl := h.vl
theorem OInv.app {m : List Rc} {s : Nat} {D : DataW Unit} {bm n : Nat} {w : World} {left left' : Lit → Bool} {cnt cnt' : Nat} {zs : List Int} {v5 v' : Value} {wr w1 w2 wa : World} {z : Int} (h : OInv m s D bm n w left cnt zs v5 wr) (hbm : bm < w.heap.size) (hr : w1.ranges Try.prog 60 (unitElem (H := Unit)) bm w.heap.size n D left' cnt') (hg : wr.grownBy w1 (some w.heap.size)) (hi : OfIs m s left' (zs ++ [z])) (ht : Touch [] w1 w2)
    (ha : AppAtE 3 1 w2 v5 (zs.map icell ++ [icell z]) v' wa) (hta : Touch (ownL v5) w2 wa) : OInv m s D bm n w left' cnt' (zs ++ [z]) v' wa where
  rng := ranges_touch (ranges_touch hr ht (by simp) (by simp)) hta (fun hm => by have := h.vl _ (ownL_mem.1 hm); omega) (fun hm => by have := h.vl _ (ownL_mem.1 hm); omega)
  row := by unfold IRow; rw [List.map_append]; exact ha.1
  is := hi
  grow := by
    have hg2 : Grow w w2 := Grow.trans (Below.trans h.grow ((Touch.grown (S := [w.heap.size]) hg (fun k e => by cases e; simp)).below h.grow.size (by simp))) (ht.below (Nat.le_refl _) (by simp))
    exact Below.trans hg2 (hta.below hg2.size (fun j hj => by have := h.vl _ (ownL_mem.1 hj); omega))
  vl := fun g e => by
    rcases ha.2 with h1 | ⟨g', h1, h2⟩
    · exact h.vl g (h1 ▸ e)
    · rw [e] at h1; cases h1
      have h3 := hr.lt
      have h4 := ht.size
      omega
set_option maxRecDepth 100000 in
set_option maxHeartbeats 2000000 in
theorem of_ok {w : World} {B bm n : Nat} {m : List Rc} (h : Tab w B bm n m) (hml : m.length ≤ 100000) (s : Nat) : Calls Try.prog 13 #[.pointer (some ⟨B, 0, none⟩), .int .u32 (s : Int)] w (OfPost m s w) := by
  have HT := Lib.hid h
  have c0 := h.cell
  obtain ⟨D, hown, hs⟩ := h.map
  have HO := Lib.hid hown
  have HS := Lib.hid hs
  have HBM := Lib.hid h.lt.2
  obtain ⟨i0, hi0, hz0, hz1, hz2⟩ := info_parts info3
  have HI0 := Lib.hid hi0
  clear h hown hs hi0
  go_enter Try.func13, Try.ntmps13
  go_wp2_with fail
  refine (made_yes HT.out).mono ?_
  rintro e w' ⟨rfl, rfl⟩
  go_wp2_with (first | (at_range; refine wpList_range_own _ rfl _ 48 rfl 60 67 keyed Try.underlying48 _ bm n D rfl HO.out ?_; intro w0 hrg0 hg0 hs0))
  go_frame
  have HI := Lib.hid (show OInv m s D bm n w (Maps.has D) (Maps.size D) [] (.slice none 0 0) w0 from { rng := hrg0, row := rowNil _ _ _, is := OfIs.start HS.out s, grow := (Touch.grown (S := []) hg0 (by simp)).below (Nat.le_refl _) (by simp), vl := fun g e => (by cases e) })
  clear hrg0 hg0 hs0 c0
  go_loopw [5] (fun t5 wr => ∃ (left : Lit → Bool) (cnt : Nat) (zs : List Int), (∃ a5 n5 c5, t5 = .slice a5 n5 c5) ∧ Hid (OInv m s D bm n w left cnt zs t5 wr)) (fun _ wr => wr.rangeLeft bm w.heap.size)
  case atStart => exact ⟨_, _, [], ⟨none, 0, 0, rfl⟩, HI⟩
  case round =>
    obtain ⟨left, cnt, zs, ⟨a5, n5, c5, rfl⟩, HI⟩ := hrel
    go_wp2_with (first | (at_next; refine wpList_next_ranges _ rfl _ rfl 60 keyed (unitElem (H := Unit)) (fun x : Rc => Value.agg #[.int .i64 x.1, .int .u32 (x.2 : Int)]) (fun _ : Unit => Value.agg #[]) (fun key l hk => by obtain ⟨r, _, h2, _⟩ := keyOf_inv hk; exact ⟨r, h2⟩) (fun v y hv => ⟨(), (unitElem_inv hv).1⟩) bm w.heap.size n _ _ _ rfl HI.out.rng ?_ ?_))
    · intro _ hl0
      have HF := Lib.hid (HI.out.is.done HS.out.nodup hl0)
      have HLn := Lib.hid (show zs.length ≤ 1000000 by have := HI.out.is.len; omega)
      clear hl0
      go_wp2_with fail
      refine (sort_ints HI.out.row HLn.out).mono ?_
      intro e w2 hpost
      obtain ⟨he, hr2, ht2⟩ := hpost
      subst he
      have HR := Lib.hid (show IRow w2 (.slice a5 n5 c5) (sortI (ofR m s)) by rw [← HF.out]; exact hr2)
      have HG := Lib.hid (show Grow w w2 from Below.trans HI.out.grow (ht2.below HI.out.grow.size (fun j hj => by have := HI.out.vl _ (ownL_mem.1 hj); omega)))
      have HV := Lib.hid (show ∀ g, (Value.slice a5 n5 c5).ownBlock = some g → w.heap.size ≤ g from fun g e => by have := HI.out.vl g e; omega)
      clear hr2 ht2
      go_wp2_with fail
      go_ret
      exact ⟨_, rfl, HR.out, HG.out, HV.out⟩
    · intro xb xs l0 y1 y2 w1 cnt1 hkey hlk hv hat hrg1 hlt hg1 hs1 hen
      obtain ⟨hok, rfl⟩ := kv_inv (x := (xb, xs)) hkey
      have hxm := HS.out.mem_of hok hat
      have HR1 := Lib.hid hrg1
      have HG1 := Lib.hid hg1
      have HLT := Lib.hid hlt
      have HLK := Lib.hid hlk
      have HXM := Lib.hid hxm
      have HRW := Lib.hid (show IRow w1 (.slice a5 n5 c5) zs from Row.kept HI.out.row (Touch.grown (S := [w.heap.size]) hg1 (fun k e => by cases e; simp)) (fun g e hm => by have := HI.out.vl g e; rw [List.mem_singleton.1 hm] at this; omega))
      clear hkey hlk hv hat hrg1 hg1 hlt hok hxm hs1
      by_cases hxb : xs = s
      · have HI1 := Lib.hid (HI.out.is.more HS.out.ok HXM.out hxb HLK.out)
        have exb : ((xs : Int) == (s : Int)) = true := by simp; omega
        go_wp2_with (first | (at_builtin; refine wpList_append_row rfl _ _ 34 rfl 3 i0 (.int .i64 0) 1 8 Try.underlying34 HI0.out hz0 hz1 hz2 rfl (by omega) (.slice a5 n5 c5) (zs.map icell) rfl (Row.kept HRW.out ((Touch.alloc [] _ _).trans (Touch.alloc [] _ _) (by simp)) (by simp)) _ 1 (icell xb) rfl rfl (new_cells2 _ _ _ _) (fun u hu => by rw [List.mem_singleton.1 hu]; rfl) (by rw [List.length_map]; have := HI.out.is.len; omega) (by omega) ?_; intro v' wa happ htch))
        have HI2 := Lib.hid (HI.out.app HBM.out HR1.out HG1.out HI1.out ((Touch.alloc [] _ _).trans (Touch.alloc [] _ _) (by simp)) happ htch)
        clear happ htch
        go_roundw
        case rel =>
          obtain ⟨aa, cc, hh⟩ := HI2.out.row.len
          exact ⟨_, _, _, ⟨aa, _, cc, hh⟩, HI2⟩
        case measure => rw [HI2.out.rng.left_eq, HI.out.rng.left_eq]; exact HLT.out
      · have HI1 := Lib.hid (HI.out.is.other HS.out.ok HXM.out hxb)
        have HI2 := Lib.hid (HI.out.later HBM.out HR1.out HG1.out HI1.out (Touch.alloc [] w1 (.cells #[.int .i64 xb, .int .u32 (xs : Int)] 60)))
        have exb : ((xs : Int) == (s : Int)) = false := by simp; omega
        go_wp2_with fail
        go_roundw
        case rel => exact ⟨_, _, _, ⟨a5, n5, c5, rfl⟩, HI2⟩
        case measure => rw [HI2.out.rng.left_eq, HI.out.rng.left_eq]; exact HLT.out
#print axioms of_ok
end Go.Proofs.Ytbpejjgjjjmlkaa
