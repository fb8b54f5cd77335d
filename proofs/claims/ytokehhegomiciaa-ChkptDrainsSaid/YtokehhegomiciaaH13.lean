/- New; Left. -/
import Derived.Test.YtokehhegomiciaaH12
set_option linter.unusedVariables false
set_option linter.unusedSimpArgs false
namespace Go.Proofs.Ytokehhegomiciaa
open Go.RowKit Go.Maps

def gvv (g : G4) : Value := .agg #[.int .i64 g.gr, .int .i64 g.sz, .int .i64 g.ni, .int .i64 g.jr]
theorem new_no {g : G4} (hM : ¬ g.May) (w : World) : Calls Try.prog 16 #[.agg #[.int .i64 g.gr, .int .i64 g.sz, .int .i64 g.ni, .int .i64 g.jr]] w fun e w' => e = .returned (.tuple #[.pointer none, .int .i64 50]) ∧ Grow w w' := by
  have HN := Lib.hid (Geo.may_no g.gr g.sz g.ni g.jr hM)
  go_enter Try.func16, Try.ntmps16
  go_wp2_with fail
  refine (HN.out _).mono ?_
  intro e w1 hp
  obtain ⟨rfl, hg⟩ := hp
  have HG := Lib.hid hg
  clear hg
  go_wp2_with fail
  go_ret2
  exact ⟨rfl, (Grow.alloc _ _).trans HG.out⟩
theorem new_ok {g : G4} (hM : g.May) (w : World) : Calls Try.prog 16 #[.agg #[.int .i64 g.gr, .int .i64 g.sz, .int .i64 g.ni, .int .i64 g.jr]] w fun e w' => ∃ B, e = .returned (.tuple #[.pointer (some ⟨B, 0, none⟩), .int .i64 0]) ∧ LSt w' B g ⟨false, 0, []⟩ [B] (.slice none 0 0) [] ∧ w.heap.size ≤ B ∧ Grow w w' := by
  have HN := Lib.hid (Geo.may_yes g.gr g.sz g.ni g.jr hM)
  go_enter Try.func16, Try.ntmps16
  go_wp2_with fail
  refine (HN.out _).mono ?_
  intro e w1 hp
  obtain ⟨rfl, hg⟩ := hp
  have HG := Lib.hid (show Grow w w1 from (Grow.alloc _ _).trans hg)
  have hb := (hg.block w.heap.size (by simp)).trans (heap_alloc_last w _)
  have k0 := cell_at hb 0
  have k1 := cell_at hb 1
  have k2 := cell_at hb 2
  have k3 := cell_at hb 3
  simp only [List.getElem?_toArray, List.getElem?_cons_zero, List.getElem?_cons_succ] at k0 k1 k2 k3
  clear hg hb
  go_wp2_with fail
  go_ret2
  refine ⟨w1.heap.size, rfl, ⟨⟨heap_alloc_last _ _, ⟨by simp, .inl ⟨rfl, rfl⟩⟩, by simp, by simp, by simp⟩, rfl, by simp, fun k hk => (by cases hk), by simp, by simp⟩, HG.out.size, HG.out.trans (Grow.alloc _ _)⟩
#print axioms new_ok
/-! ### Left -/
/-- has any transaction a copy of the block left? -/
def leftP (l : List CT) (i : Int) : Bool := l.any fun t => (findC t.left i).isSome
theorem left_not {w : World} {v : Value} (hI : Calls Try.prog 30 #[v] w fun e w' => e = .returned (.bool false) ∧ w = w') : Calls Try.prog 17 #[v] w fun e w' => e = .returned (.slice none 0 0) ∧ w = w' := by
  go_enter Try.func17, Try.ntmps17
  go_wp2_with fail
  refine hI.mono ?_
  rintro e w' ⟨rfl, rfl⟩
  go_wp2_with fail
  go_ret
  exact ⟨rfl, rfl⟩
structure CB where
  c : Cp
/-- a round of the walk over a map -/
structure JInv (f : Int → Option Cp) (D : DataW Value) (bm r : Nat) (n : Nat) (w : World) (zs : List Int) (left : Lit → Bool) (cnt : Nat) (ys : List Int) (v : Value) (wr : World) : Prop where
  rng : wr.ranges Try.prog 3 copyK.elem bm r n D left cnt
  row : IRow wr v (zs ++ ys)
  is : Coll (fun i => (f i).isSome) left ys
  grow : Grow w wr
  vl : ∀ g, v.ownBlock = some g → w.heap.size ≤ g ∧ g ≠ r
  lo : bm < w.heap.size ∧ w.heap.size ≤ r
  len : ys.length + cnt ≤ n
theorem JInv.app {f : Int → Option Cp} {D : DataW Value} {bm r n : Nat} {w : World} {left left' : Lit → Bool} {cnt cnt' : Nat} {zs ys : List Int} {v v' : Value} {wr w1 w2 wa : World} {z : Int} (h : JInv f D bm r n w zs left cnt ys v wr) (hr : w1.ranges Try.prog 3 copyK.elem bm r n D left' cnt') (hg : wr.grownBy w1 (some r)) (hlt : cnt' < cnt) (hi : Coll (fun i => (f i).isSome) left' (ys ++ [z])) (ht : Grow w1 w2)
    (ha : AppAtE 3 1 w2 v ((zs ++ ys).map icell ++ [icell z]) v' wa) (hta : Touch (ownL v) w2 wa) : JInv f D bm r n w zs left' cnt' (ys ++ [z]) v' wa where
  rng := ranges_touch (ranges_touch hr (Touch.of_below (S := []) ht) (by simp) (by simp)) hta (fun hm => by have := (h.vl _ (ownL_mem.1 hm)).1; have := h.lo.1; omega) (fun hm => (h.vl _ (ownL_mem.1 hm)).2 rfl)
  row := by unfold IRow; rw [← List.append_assoc, List.map_append]; exact ha.1
  is := hi
  grow := by
    have h1 : Grow w w1 := Below.trans h.grow ((Touch.grown (S := [r]) hg (fun k e => by cases e; simp)).below h.grow.size (fun j hj => by rw [List.mem_singleton.1 hj]; exact h.lo.2))
    have h2 := Grow.trans h1 ht
    exact Below.trans h2 (hta.below h2.size (fun j hj => (h.vl _ (ownL_mem.1 hj)).1))
  vl := fun g e => by
    have h1 : Grow w w1 := Below.trans h.grow ((Touch.grown (S := [r]) hg (fun k e => by cases e; simp)).below h.grow.size (fun j hj => by rw [List.mem_singleton.1 hj]; exact h.lo.2))
    rcases ha.2 with h1 | ⟨g', h1, h2⟩
    · exact h.vl g (h1 ▸ e)
    · rw [e] at h1; cases h1
      have h3 := hr.lt
      have h4 := ht.size
      have h6 := h.grow.size
      have h7 := hg.size
      exact ⟨by omega, by omega⟩
  lo := h.lo
  len := by rw [List.length_append]; have := h.len; simp; omega
/-- the blocks of the first k transactions -/
structure KIn (l : List CT) (w : World) (k : Nat) (zs : List Int) (v : Value) (wr : World) : Prop where
  row : IRow wr v zs
  mem : ∀ i, i ∈ zs ↔ leftP (l.take k) i = true
  grow : Grow w wr
  vl : ∀ g, v.ownBlock = some g → w.heap.size ≤ g
  len : zs.length ≤ 600 * k
theorem leftP_take {l : List CT} {k : Nat} {t : CT} (h : l[k]? = some t) (i : Int) : leftP (l.take (k + 1)) i = (leftP (l.take k) i || (findC t.left i).isSome) := by
  unfold leftP
  rw [List.take_add_one, h, List.any_append]
  simp
def LeftPost (l : List CT) (w : World) (e : Ending) (w' : World) : Prop := ∃ v zs, e = .returned v ∧ ISee w' v zs ∧ Rising (leftP l) zs ∧ zs.length ≤ 600000 ∧ Grow w w' ∧ ∀ g, v.ownBlock = some g → w.heap.size ≤ g
set_option maxRecDepth 100000 in
set_option maxHeartbeats 8000000 in
theorem left_ok {w : World} {B : Nat} {g : G4} {s : CS} {T : List Nat} {va : Value} {xs : List CV} (h : LSt w B g s T va xs) : Calls Try.prog 17 #[.pointer (some ⟨B, 0, none⟩)] w (LeftPost s.all w) := by
  obtain ⟨a, cap, rfl⟩ := h.va
  have HH := Lib.hid h
  have c0 : w.cell? ⟨B, 0, none⟩ = some (.bool true) := cell_at h.li.obj 0
  have c7 : w.cell? ⟨B, 7, none⟩ = some (.slice a s.all.length cap) := cell_at h.li.obj 7
  have hn := h.rowlen
  have hnb := h.li.len
  rw [hn] at hnb
  obtain ⟨n, hnn⟩ : ∃ n, n = s.all.length := ⟨_, rfl⟩
  rw [← hnn] at c7 hnb hn
  have HN := Lib.hid hn
  have HNN := Lib.hid hnn
  have HI := Lib.hid (is_made c0)
  obtain ⟨i0, hi0, hz0, hz1, hz2⟩ := info_parts info3
  have HI0 := Lib.hid hi0
  clear h hn hnn c0 hi0
  go_enter Try.func17, Try.ntmps17
  go_wp2_with fail
  refine HI.out.mono ?_
  rintro e w' ⟨rfl, rfl⟩
  go_wp2_with fail
  clear c7
  go_loopw [3, 14] (fun t3 t14 wr => ∃ (k : Nat) (zs : List Int), t14 = .int .i64 (k : Int) ∧ k ≤ n ∧ (∃ a9 n9 c9, t3 = .slice a9 n9 c9) ∧ Hid (KIn s.all w k zs t3 wr)) (fun _ t14 _ => n - (intOf t14).toNat)
  case atStart => exact ⟨0, [], by go_num, by omega, ⟨_, _, _, rfl⟩, Lib.hid ⟨rowNil _ _ _, fun i => by unfold leftP; simp, Grow.refl _, fun g hg => (by cases hg), by simp⟩⟩
  case round =>
    obtain ⟨k, zs, rfl, hkn, ⟨a9, n9, c9, rfl⟩, HK⟩ := hrel
    by_cases hk : k < n
    · obtain ⟨x, hx⟩ : ∃ x, xs[k]? = some x := ⟨xs[k]'(by rw [HN.out]; exact hk), by simp⟩
      have hW := HH.out.grow HK.out.grow
      obtain ⟨ga, oa, rfl, hr, q2, q3, q4⟩ := hW.li.elem hx
      have c7 : wr.cell? ⟨B, 7, none⟩ = some (.slice (some ⟨ga, oa, none⟩) n cap) := by rw [HNN.out]; exact cell_at hW.li.obj 7
      have hxi := hW.li.is x (List.mem_of_getElem? hx)
      obtain ⟨D, hown, hA, hle⟩ := hxi.map
      have HLL := Lib.hid (show (pr x.t.left).length ≤ 600 by unfold pr; rw [List.length_map]; exact hxi.ok.left_le)
      have HO := Lib.hid hown
      have HGM := Lib.hid hA.g
      have HSZ := Lib.hid hA.size
      have HHas := Lib.hid hA.g.has
      have HXT := Lib.hid (HH.out.at_all hx)
      have HBM := Lib.hid (show x.m < w.heap.size from (HH.out.li.is x (List.mem_of_getElem? hx)).map.lt)
      have HLP := Lib.hid (show lookA (pr x.t.left) = findC x.t.left from funext fun i => look_pr _ _)
      have b0 : (0 : Int) ≤ (k : Int) := by omega
      have b1 : (k : Int) < (n : Int) := by omega
      clear hx hW hr q2 q3 hxi hown hA hle
      obtain ⟨wo, rfl⟩ : ∃ wo : World, wo = wr := ⟨_, rfl⟩
      go_wp2_with (first | (at_range; refine wpList_range_own _ rfl _ 80 rfl 3 35 keyInt Try.underlying80 copyK.elem x.m 600 D rfl HO.out ?_; intro w0 hrg0 hg0 hs0; rw [HSZ.out] at hrg0))
      go_frame
      have HJ := Lib.hid (show JInv (lookA (pr x.t.left)) D x.m wo.heap.size 600 w zs (Maps.has D) (pr x.t.left).length [] (.slice a9 n9 c9) w0 from { rng := hrg0, row := by rw [List.append_nil]; exact Row.kept HK.out.row (Touch.grown (S := []) hg0 (by simp)) (by simp), is := Coll.start HHas.out, grow := Grow.trans HK.out.grow ((Touch.grown (S := []) hg0 (by simp)).below (Nat.le_refl _) (by simp)), vl := fun g e => ⟨HK.out.vl g e, fun e2 => by have := Row.lt HK.out.row e; omega⟩, lo := ⟨HBM.out, HK.out.grow.size⟩, len := by simpa using HLL.out })
      clear hrg0 hg0 hs0
      go_loopw [3] (fun t3 wr => ∃ (left : Lit → Bool) (cnt : Nat) (ys : List Int), (∃ a9 n9 c9, t3 = .slice a9 n9 c9) ∧ Hid (JInv (lookA (pr x.t.left)) D x.m wo.heap.size 600 w zs left cnt ys t3 wr)) (fun _ wr => wr.rangeLeft x.m wo.heap.size)
      case atStart => exact ⟨_, _, [], ⟨_, _, _, rfl⟩, HJ⟩
      case round =>
        obtain ⟨left, cnt, ys, ⟨a9, n9, c9, rfl⟩, HI⟩ := hrel
        go_wp2_with (first | (at_next; refine wpList_next_ranges _ rfl _ rfl 3 keyInt copyK.elem (fun x : Int => Value.int .i64 x) (fun y : CB => Value.agg (ccell y.c).toArray) (fun key l hk => by obtain ⟨r, _, h2, _⟩ := keyOf_ik_inv hk; exact ⟨r, h2⟩) (fun v y hv => by obtain ⟨x, _, h2, _⟩ := EK.elem_inv hv; exact ⟨⟨x⟩, h2⟩) x.m wo.heap.size 600 _ _ _ rfl HI.out.rng ?_ ?_))
        · intro _ hl0
          have hmm : ∀ i, i ∈ zs ++ ys ↔ leftP (s.all.take (k + 1)) i = true := by
            intro i
            rw [leftP_take HXT.out, List.mem_append, HK.out.mem, HI.out.is.mem, hl0, HLP.out]
            simp
          have HK2 := Lib.hid (show KIn s.all w (k + 1) (zs ++ ys) (.slice a9 n9 c9) wr from { row := HI.out.row, mem := hmm, grow := HI.out.grow, vl := fun g e => (HI.out.vl g e).1, len := (by have := HI.out.len; have := HK.out.len; rw [List.length_append]; omega) })
          clear hmm
          clear hl0
          go_wp2_with fail
          go_roundw
          case rel => exact ⟨k + 1, zs ++ ys, by go_num, by omega, ⟨_, _, _, rfl⟩, HK2⟩
          case measure => simp [intOf]; omega
        · intro xb yy l0 y1 y2 w2 cnt1 hkey hlk hv hat hrg1 hlt hg1 hs1 hen
          generalize yy.c = y at *
          clear yy
          obtain ⟨xi, hxok, hxe, hl0⟩ := keyOf_ik_inv hkey
          cases hxe
          subst hl0
          obtain ⟨y', hyl, hye, hy1⟩ := EK.elem_inv hv
          obtain rfl : y = y' := copyK.inj _ _ hye
          have HFX := Lib.hid (show (lookA (pr x.t.left) xb).isSome = true by rw [HGM.out.of_at (fun z => by rw [hat z]; exact (Prod.ext_iff.1 hy1).1)]; rfl)
          have HR1 := Lib.hid hrg1
          have HG1' := Lib.hid hg1
          have HLTc := Lib.hid hlt
          have HI1 := Lib.hid (HI.out.is.more HFX.out hlk)
          have HRW2 := Lib.hid (show IRow w2 (.slice a9 n9 c9) (zs ++ ys) from Row.kept HI.out.row (Touch.grown (S := [wo.heap.size]) hg1 (fun k e => by cases e; simp)) (fun g e hm => (HI.out.vl g e).2 (List.mem_singleton.1 hm)))
          have HLz := Lib.hid (show (zs ++ ys).length + 1 ≤ 1000000 by have := HI.out.len; have := HK.out.len; rw [List.length_append]; omega)
          clear hkey hlk hv hat hrg1 hg1 hlt hs1 hyl hye hy1 hxok
          go_wp2_with (first | (at_builtin; refine wpList_append_row rfl _ _ 37 rfl 3 i0 (.int .i64 0) 1 8 Try.underlying37 HI0.out hz0 hz1 hz2 rfl (by omega) (.slice a9 n9 c9) ((zs ++ ys).map icell) rfl (Row.kept HRW2.out (Touch.alloc [] _ _) (by simp)) _ 1 (icell xb) rfl rfl (new_cells _ _ _) (fun u hu => by rw [List.mem_singleton.1 hu]; rfl) (by rw [List.length_map]; exact HLz.out) (by omega) ?_; intro v' wa happ htch))
          have HI2 := Lib.hid (HI.out.app HR1.out HG1'.out HLTc.out HI1.out (Grow.alloc _ _) happ htch)
          clear happ htch
          go_roundw
          case rel =>
            obtain ⟨aa, cc, hh⟩ := HI2.out.row.len
            exact ⟨_, _, _, ⟨aa, _, cc, hh⟩, HI2⟩
          case measure => rw [HI2.out.rng.left_eq, HI.out.rng.left_eq]; exact HLTc.out
    · obtain rfl : k = n := by omega
      have HLn := Lib.hid (show zs.length ≤ 600000 by have := HK.out.len; omega)
      have HM := Lib.hid (show ∀ i, i ∈ zs ↔ leftP s.all i = true from fun i => by rw [HK.out.mem, HNN.out, List.take_length])
      go_wp2_with fail
      refine (sort_ints HK.out.row (Nat.le_trans HLn.out (by omega))).mono ?_
      intro e w2 hpost
      obtain ⟨rfl, hr2, ht2⟩ := hpost
      have HR2 := Lib.hid hr2
      have HG2 := Lib.hid (show Grow w w2 from Below.trans HK.out.grow (ht2.below HK.out.grow.size (fun j hj => HK.out.vl _ (ownL_mem.1 hj))))
      have HVL := Lib.hid HK.out.vl
      clear hr2 ht2
      go_wp2_with fail
      refine (compact_ints HR2.out (by rw [sortI_length]; have := HLn.out; omega)).mono ?_
      intro e w3 hpost
      obtain ⟨a3, cap3, rfl, hr3, ht3, hown3⟩ := hpost
      have HCM := Lib.hid (compact_rises (sortI zs) (sortI_sorted zs))
      have HCL := Lib.hid (show (Lib.compact (sortI zs)).length ≤ 600000 by have := compact_le (sortI zs); rw [sortI_length] at this; have := HLn.out; omega)
      have HR3 := Lib.hid hr3
      have HG3 := Lib.hid (show Grow w w3 from Below.trans HG2.out (ht3.below HG2.out.size (fun j hj => HVL.out _ (ownL_mem.1 hj))))
      have HO3 := Lib.hid (fun q hq => HVL.out q (hown3 q hq))
      generalize Lib.compact (sortI zs) = cs3 at *
      obtain ⟨n3, hn3⟩ : ∃ n3, n3 = cs3.length := ⟨_, rfl⟩
      rw [← hn3] at HR3 HO3 HCL
      have HN3 := Lib.hid hn3
      clear hr3 ht3 hown3
      rw [← hn3]
      clear hn3
      have hcap : (n3 : Int) ≤ (cap3 : Int) := by
        have h1 := HR3.out
        have h2 := (Row.g h1).2
        rcases h2 with ⟨h3, h4⟩ | ⟨g', o', cap', h3, h4, _⟩
        · cases h3; omega
        · simp only [Value.slice.injEq] at h3
          obtain ⟨_, h5, h6⟩ := h3
          omega
      have hcap' : n3 ≤ cap3 := by omega
      have HSE := Lib.hid (show ∀ z ∈ cs3, IntOk z from fun z hz => by
        have h1 := (HM.out z).1 ((sortI_perm zs).mem_iff.1 ((HCM.out.2 z).1 hz))
        unfold leftP at h1
        obtain ⟨t, ht, h2⟩ := List.any_eq_true.1 h1
        obtain ⟨c, hc⟩ := Option.isSome_iff_exists.1 h2
        obtain ⟨h3, h4⟩ := findC_mem hc
        have hk := HH.out.oks t ht
        rw [← h4]; exact (hk.cs c (hk.sub.subset h3)).1.1)
      go_wp2_with fail
      go_ret
      refine ⟨.slice a3 n3 n3, cs3, rfl, ⟨?_, HSE.out⟩, ⟨HCM.out.1, fun i => by rw [HCM.out.2, (sortI_perm zs).mem_iff, HM.out]⟩, by rw [← HN3.out]; exact HCL.out, HG3.out, fun q hq => HO3.out q (by cases a3 with | none => cases hq | some y => exact hq)⟩
      obtain ⟨a', cap', hv, hi⟩ := Row.see HR3.out
      refine ⟨a3, n3, by rw [List.length_map, ← HN3.out], fun j c hj => ?_⟩
      simp only [Value.slice.injEq] at hv
      obtain ⟨rfl, _, _⟩ := hv
      exact hi j c hj
#print axioms left_ok
end Go.Proofs.Ytokehhegomiciaa
