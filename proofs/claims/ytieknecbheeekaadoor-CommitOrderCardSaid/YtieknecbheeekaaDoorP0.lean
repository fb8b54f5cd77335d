/- make of a whole row; blocks appended to a row of blocks. -/
import Derived.Test.YtieknecbheeekaaDoorJ5
import Derived.Test.YtieknecbheeekaaDoorS1
set_option linter.unusedVariables false
set_option linter.unusedSimpArgs false
namespace Go.Proofs.YtieknecbheeekaaDoor
open Go.RowKit Go.Maps

theorem made_rep (z : List Value) (sz n : Nat) (hz : z.length = sz) (h0 : 0 < sz) : (madeCells z.toArray (n * sz)).toList = (List.replicate n z).flatten := by
  have hl : ∀ c ∈ List.replicate n z, c.length = sz := fun c hc => by rw [(List.mem_replicate.1 hc).2]; exact hz
  apply List.ext_getElem?
  intro k
  by_cases hk : k < n * sz
  · have hq : k / sz < n := (Nat.div_lt_iff_lt_mul h0).2 hk
    have hr : k % sz < sz := Nat.mod_lt _ h0
    have h1 := flatten_get sz (List.replicate n z) (k / sz) (k % sz) z hl (by rw [List.getElem?_replicate, if_pos hq]) hr
    rw [show k / sz * sz + k % sz = k by rw [Nat.mul_comm]; exact Nat.div_add_mod k sz] at h1
    rw [h1]
    have hz2 : z.toArray[k % sz]! = z[k % sz]'(by omega) := by
      rw [getElem!_def, List.getElem?_toArray, List.getElem?_eq_getElem (by omega)]
    simp only [madeCells, Array.toList_map, List.getElem?_map, Array.toList_range, List.getElem?_range hk, Option.map_some, List.size_toArray, hz, hz2]
    rw [List.getElem?_eq_getElem (by omega)]
  · rw [List.getElem?_eq_none (by rw [Array.length_toList, size_madeCells]; omega), List.getElem?_eq_none (by rw [flatten_length sz _ hl, List.length_replicate]; omega)]
/-- a row of n elements of noughts -/
theorem wpList_make_full {P : Program} {ops : Array Oper} {rest : List Oper} {o : Oper} {a : Act} {w : World} {Q : Exit → Act → World → Prop} (hgd : o.guard = none) (t : TypeId) (x y : Operand) (hop : o.op = .makeSlice t x y)
    (e : TypeId) (i : TypeInfo) (zv : Value) (z : List Value) (hzc : zv.cells = z.toArray) (size bytes : Nat) (ht : P.underlying t = some (.slice e)) (hi : P.info? e = some i) (hz : i.zero = some zv) (hsize : i.size = size) (hby : i.bytes = bytes) (hzl : z.length = size) (h0 : 0 < size)
    (n : Nat) (hx : a.eval x = .int .i64 (n : Int)) (hy : a.eval y = .int .i64 (n : Int)) (hn : n ≤ 1000000) (hbytes : bytes ≤ 1000000)
    (hT : ∀ w', Row w' e size (.slice (some ⟨w.heap.size, 0, none⟩) n n) (List.replicate n z) → Grow w w' → wpList P ops Q rest (a.put o.dst (.slice (some ⟨w.heap.size, 0, none⟩) n n)) w') : wpList P ops Q (o :: rest) a w := by
  refine wpList_plain hgd fun K' hK' => ?_
  have hb : (i.bytes : Int) * (n : Int) ≤ 281474976710656 := by
    have h := Nat.mul_le_mul hbytes hn
    rw [← hby] at h
    have h2 : ((i.bytes * n : Nat) : Int) ≤ ((1000000 * 1000000 : Nat) : Int) := by exact_mod_cast h
    rw [Int.natCast_mul] at h2
    omega
  have hr := run_make (P := P) w t e i zv ht hi hz .i64 .i64 n n (by omega) (Int.le_refl _) hb (by omega)
  simp only [Int.toNat_natCast, hsize, hzc] at hr
  unfold Oper.wp
  have hrun : (execOp a.eval o).run P w = .ok (.value (.slice (some ⟨w.heap.size, 0, none⟩) n n)) (w.alloc (.cells (madeCells z.toArray (n * size)) e)) := by
    unfold execOp
    simp only [hop, hx, hy, Sem.run_bind, Sem.run_pure, Result.andThen_ok, hr]
  rw [hrun]
  have hl : ∀ c ∈ List.replicate n z, c.length = size := fun c hc => by rw [(List.mem_replicate.1 hc).2]; exact hzl
  have hM := made_rep z size n hzl h0
  have hs : (madeCells z.toArray (n * size)).size = n * size := size_madeCells _ _
  refine hK' _ _ (hT _ ⟨hl, by rw [flatten_length size _ hl], .inr ⟨w.heap.size, n, _, by simp, Nat.zero_le _, heap_alloc_last w _, by simp, by unfold maxLen; omega, by simpa using hs, ?_⟩⟩ (Grow.alloc _ _))
  rw [List.length_replicate, ← hM]
  exact List.take_of_length_le (by rw [Array.length_toList, hs]; exact Nat.le_refl _)
theorem Row.see2 {w : World} {e sz : Nat} {v : Value} {l : List (List Value)} (h : Row w e sz v l) : See w sz v l := h.see
/-- a row of blocks of one's own, onto which more was put -/
structure Put (W w : World) (vb v : Value) (bl : List Blk) : Prop where
  row : BRow w v bl
  own : v.ownBlock = vb.ownBlock ∨ ∃ g, v.ownBlock = some g ∧ W.heap.size ≤ g
  touch : Touch (ownL vb) W w
theorem Put.later {W w w' : World} {vb v : Value} {bl : List Blk} (h : Put W w vb v bl) (hg : Grow w w') : Put W w' vb v bl :=
  ⟨h.row.grow hg, h.own, h.touch.trans (Touch.of_below (S := []) hg) (by simp)⟩
theorem Put.start {W w : World} {vb : Value} {bl : List Blk} (h : BRow W vb bl) (hg : Grow W w) : Put W w vb vb bl :=
  ⟨h.grow hg, .inl rfl, Touch.of_below hg⟩
theorem Put.app {W w w' : World} {vb v v' : Value} {bl more : List Blk} (h : Put W w vb v bl) (ha : AppAtE 34 256 w v (bl.map bc ++ more.map bc) v' w') (ht : Touch (ownL v) w w') : Put W w' vb v' (bl ++ more) where
  row := by unfold BRow; rw [List.map_append]; exact ha.1
  own := by
    rcases ha.2 with h1 | ⟨g, h1, h2⟩
    · rw [h1]; exact h.own
    · exact .inr ⟨g, h1, Nat.le_trans h.touch.size h2⟩
  touch := h.touch.trans ht (fun i hi => by
    rcases h.own with h1 | ⟨g, h1, h2⟩
    · exact .inl (ownL_mem.2 (h1 ▸ ownL_mem.1 hi))
    · have := ownL_mem.1 hi
      rw [h1] at this
      cases this
      exact .inr h2)
/-- a row of one block, written out: it is appended -/
theorem Put.app1 {W w w' : World} {vb v v' : Value} {bl : List Blk} {x : Blk} (h : Put W w vb v bl) (ha : AppAtE 34 256 w v (bl.map bc ++ [bc x]) v' w') (ht : Touch (ownL v) w w') : Put W w' vb v' (bl ++ [x]) := h.app (more := [x]) ha ht
#print axioms Put.app1
end Go.Proofs.YtieknecbheeekaaDoor
