/- awake: the chapter's rows, in memory. -/
import Derived.Test.YtokehhegomiciaaH14
set_option linter.unusedVariables false
set_option linter.unusedSimpArgs false
namespace Go.Proofs.Ytokehhegomiciaa
open Go.RowKit Go.Maps

theorem cOk_of {g : G4} {cs : List Cp} (h1 : (cs.map (·.1)).Pairwise (· < ·)) (h2 : ∀ c ∈ cs, inG g c.1) : ∀ i, cOk g cs i := by
  intro i c hc
  refine ⟨fun d h0 hd => ?_, h2 c (List.mem_of_getElem? hc)⟩
  exact rise_at h1 hd hc (by omega)
theorem rOk_of {rs : List Int} (h1 : rs.Pairwise (· < ·)) (h2 : ∀ r ∈ rs, 0 ≤ r) : ∀ i, rOk rs i := by
  intro i r hr
  refine ⟨h2 r (List.mem_of_getElem? hr), fun d h0 hd => ?_⟩
  rw [List.pairwise_iff_getElem] at h1
  have a := List.getElem?_eq_some_iff.1 hr
  have b := List.getElem?_eq_some_iff.1 hd
  have := h1 (i - 1) i b.1 a.1 (by omega)
  rw [a.2, b.2] at this
  exact this
theorem see_new {w : World} {g sz cap : Nat} {e : TypeId} {l : List (List Value)} (h1 : ∀ c ∈ l, c.length = sz) (h : w.heap[g]? = some (.cells l.flatten.toArray e)) : See w sz (.slice (some ⟨g, 0, none⟩) l.length cap) l := by
  refine ⟨_, _, rfl, fun k c hk => ⟨g, 0, rfl, (Array.getElem?_eq_some_iff.1 h).1, ?_⟩⟩
  refine rangeAt_flat h1 (o := 0) ?_ hk
  intro j v hj
  rw [Nat.zero_add, cell_at h, List.getElem?_toArray]
  exact hj
theorem see_none (w : World) (sz : Nat) : See w sz (.slice none 0 0) [] := ⟨_, _, rfl, fun k c hk => by simp at hk⟩
set_option maxRecDepth 100000 in
theorem buildSlice_copy2 (c d : Cp) (hc : c.2.length = 256) (hd : d.2.length = 256) (w : World) : (Instr.buildSlice 36 2 #[(0, .agg (ccell c).toArray), (1, .agg (ccell d).toArray)]).run Try.prog w = .ok (.slice (some ⟨w.heap.size, 0, none⟩) 2 2) (w.alloc (.cells [ccell c, ccell d].flatten.toArray 35)) := by
  obtain ⟨i0, hi, hz0, hz1, hz2⟩ := info_parts info40
  have hl := ccell_length hc
  have hl2 := ccell_length hd
  generalize ccell c = c at *
  generalize ccell d = d at *
  have hfill : Instr.fill (fun i => some (i * 257, 257)) ((Array.range (2 * 257)).map ((ccell zeroC).toArray[· % (ccell zeroC).toArray.size]!)) [(0, .agg c.toArray), (1, .agg d.toArray)] = some [c, d].flatten.toArray := by
    generalize hA : (Array.range (2 * 257)).map ((ccell zeroC).toArray[· % (ccell zeroC).toArray.size]!) = A
    have hAs : A.size = 514 := by rw [← hA]; simp
    rw [fill_cons (off := 0 * 257) (size := 257) rfl (by show c.toArray.size = 257; rw [List.size_toArray, hl]) (by omega)]
    rw [fill_cons (off := 1 * 257) (size := 257) rfl (by show d.toArray.size = 257; rw [List.size_toArray, hl2]) (by rw [List.size_toArray, setMany_length, Array.length_toList]; omega), Instr.fill]
    congr 2
    rw [Nat.zero_mul, Nat.one_mul]
    show setMany (setMany A.toList 0 c) 257 d = [c, d].flatten
    obtain ⟨p, q, hpq, hp⟩ : ∃ p q, A.toList = p ++ q ∧ p.length = 257 := ⟨A.toList.take 257, A.toList.drop 257, (List.take_append_drop _ _).symm, by rw [List.length_take, Array.length_toList]; omega⟩
    have hq : q.length = 257 := by have := congrArg List.length hpq; rw [Array.length_toList, List.length_append] at this; omega
    rw [hpq, setMany_fore _ _ _ (by omega), ← hl, setMany_behind, setMany_all _ _ (by omega)]
    simp
  unfold Instr.buildSlice
  simp only [Sem.run_bind, run_underlying Try.underlying36, Result.andThen_ok, sizeOf, typeInfo, hi, hz1, zeroValue, hz0]
  simp [hi, hz1, hz0]
  rw [show (Value.agg (ccell zeroC).toArray).cells = (ccell zeroC).toArray from rfl]
  have h2 : (2 * 257 : Nat) = 514 := rfl
  rw [h2] at hfill
  rw [hfill]
  simp [newRow, go_sem]
#print axioms buildSlice_copy2
def smallG : G4 := ⟨2, 40, 8, 40⟩
theorem small_may : smallG.May := by unfold G4.May Geo.May smallG; simp
theorem size23 : (Try.prog.info? 23).map (·.size) = some 4 := by kernel_rfl
theorem small_ok (w : World) : Calls Try.prog 27 #[] w fun e w' => e = .returned (.agg #[.int .i64 2, .int .i64 40, .int .i64 8, .int .i64 40]) ∧ Grow w w' := by
  go_enter Try.func27, Try.ntmps27
  go_wp2
  refine bodyPost_ret (results_cell_row rfl _ _ w.heap.size 23 #[.int .i64 2, .int .i64 40, .int .i64 8, .int .i64 40] (0, 0) _ rfl (heap_alloc_last _ _) Try.underlying23 rfl size23) rfl ⟨rfl, Grow.alloc _ _⟩
theorem eqlBlk (x y : Blk) (hx : x.length = 256) (hy : y.length = 256) (w : World) : (binOp .eql 33 (.agg (bc x).toArray) (.agg (bc y).toArray)).run Try.prog w = .ok (.bool (decide (x = y))) w := by
  rw [run_eql_struct, equalB x y hx hy 9998]; rfl
/-- the chapter's rows, plainly -/
def awS1 (x y : Blk) : CS := addC ⟨false, 0, []⟩ 7 [(90, x), (91, y)] [] 1 5
def awS2 (x y z : Blk) : CS := addC (awS1 x y) 8 [(90, z)] [91] 6 4
theorem aw_all (x y z : Blk) : (awS2 x y z).all = [⟨7, 1, 5, [(90, x), (91, y)], [(90, x)]⟩, ⟨8, 6, 4, [(90, z)], [(90, z)]⟩] := rfl
theorem aw_get (x y z : Blk) : getC (awS2 x y z).all 90 = some (90, z) := by rw [aw_all]; rfl
theorem aw_next (x y z : Blk) : nextC (awS2 x y z) 0 0 9 = ⟨1, 90, z, 0, 0, 0⟩ := by
  unfold nextC
  rw [aw_all]
  rfl
theorem aw_left (x y z : Blk) (i : Int) : leftP (awS2 x y z).all i = decide (i = 90) := by
  rw [aw_all]
  unfold leftP findC
  by_cases h : i = 90
  · subst h; simp
  · have h2 : ¬ (90 : Int) = i := fun e => h e.symm
    simp [h, h2]
theorem aw_rise {x y z : Blk} {zs : List Int} (h : Rising (leftP (awS2 x y z).all) zs) : zs = [90] := by
  refine h.unique ⟨List.pairwise_singleton _ _, fun i => ?_⟩
  rw [aw_left]
  simp
theorem aw_may1 (x y : Blk) : mayP smallG ⟨false, 0, []⟩ 7 [(90, x), (91, y)] [] 1 5 where
  start := by unfold smallG; simp
  count := by unfold smallG; simp
  seq := fun h => by cases h
  cs := cOk_of (by simp) (by
    intro c hc
    simp only [List.mem_cons, List.not_mem_nil, or_false] at hc
    rcases hc with rfl | rfl <;> (unfold inG smallG; simp))
  rs := rOk_of (by simp) (by simp)
theorem aw_may2 (x y z : Blk) : mayP smallG (awS1 x y) 8 [(90, z)] [91] 6 4 where
  start := by unfold smallG; simp
  count := by unfold smallG; simp
  seq := fun _ => by show 7 < 8; omega
  cs := cOk_of (by simp) (by
    intro c hc
    simp only [List.mem_cons, List.not_mem_nil, or_false] at hc
    subst hc; unfold inG smallG; simp)
  rs := rOk_of (by simp) (by simp)
#print axioms aw_may2
end Go.Proofs.Ytokehhegomiciaa
