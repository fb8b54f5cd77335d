/- cache: Read: the walk. -/
import Derived.Test.YtieknecbheeekaaC3
set_option linter.unusedVariables false
set_option linter.unusedSimpArgs false
namespace Go.Proofs.Ytieknecbheeekaa
open Go.RowKit Go.Maps

theorem zero77a (w : World) : (zeroValue 76).run Try.prog w = .ok (.agg (hcells (zeroB, false)).toArray) w := zero77 w
theorem wpList_lookup_held {w : World} {ops : Array Oper} {rest : List Oper} {o : Oper} {a : Act} {Q : Exit → Act → World → Prop} (hg : o.guard = none) (m x : Operand) (hop : o.op = Op.lookup 70 m x true)
    (bm n N : Nat) (D : DataW Value) (f : Int → Option Hd) (hm : a.eval m = .map (some bm)) (hown : w.ownsMap Try.prog 3 heldElem bm n D) (HM : HMap N D f) (i : Int) (hok : IntOk i) (hx : a.eval x = .int .i64 i) (y : Hd) (hy : (f i).getD (zeroB, false) = y) (t : Bool) (ht : (f i).isSome = t)
    (hK : wpList Try.prog ops Q rest (a.put o.dst (.tuple #[.agg (hcells y).toArray, .bool t])) w) : wpList Try.prog ops Q (o :: rest) a w := by
  refine wpList_lookup_own_ok _ hg m x _ hop 3 76 keyInt Try.underlying70 heldElem (zero77 _) (.held (hvv (zeroB, false))) [] (heldElem_mk (zeroB, false) zeroHd) bm n D hm hown _ (ik i) hx (keyOf_ik hok) ?_
  intro v ps hv
  have h1 := HM.look i hv
  rw [hy] at h1
  rw [h1, HM.has i, ht]
  exact hK
theorem hsize {y : Hd} (hy : y.1.length = 256) : (Try.prog.info? 76).map (·.size) = some (hcells y).toArray.size := by rw [List.size_toArray, hcells_length hy]; exact size77
theorem bsize {x : Blk} (hx : x.length = 256) : (Try.prog.info? 44).map (·.size) = some (bc x).toArray.size := by rw [List.size_toArray, bc_length, hx]; exact size32
/-- behind the look at the map: two new blocks, the answer's and what was found -/
structure Found (w : World) (Z : Array Value) (y : Hd) (W : World) : Prop where
  grow : Grow w W
  lt : w.heap.size + 1 < W.heap.size
  zero : W.heap[w.heap.size]? = some (.cells Z 44)
  held : W.heap[w.heap.size + 1]? = some (.cells (hcells y).toArray 76)
theorem found_mk (w : World) (Z Z2 : Array Value) (y : Hd) : Found w Z y (((w.alloc (.cells Z 44)).alloc (.cells Z2 76)).setRow (w.heap.size + 1) (hcells y).toArray) where
  grow := below_setRow (((Below.refl _ _).alloc (Nat.le_refl _) _).alloc (by simp) _) (by omega) _
  lt := by simp
  zero := (setRow_other _ _ _ _ (by omega)).trans (heap_one _ _ _)
  held := setRow_heap _ _ _ _ _ _ (heap_two _ _ _)
end Go.Proofs.Ytieknecbheeekaa
