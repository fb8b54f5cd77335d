/- The law's Fill: a block told by a number. -/
import Derived.Test.YtlhhbkpocpnebaaD1
import Derived.Deep.WholeRow
import Derived.LoopN
set_option linter.unusedVariables false
set_option linter.unusedSimpArgs false
namespace Go.Proofs.Ytlhhbkpocpnebaa
open Go.RowKit

def zeroB : Blk := List.replicate 256 0
theorem info32 : (Try.prog.info? 29).map (fun i => (i.zero, i.size)) = some (some (.agg (bc zeroB).toArray), 256) := by kernel_rfl
theorem zero32 (w : World) : (zeroValue 29).run Try.prog w = .ok (.agg (bc zeroB).toArray) w := (zero_of_info info32).1 w
theorem size32 : (Try.prog.info? 29).map (·.size) = some 256 := (zero_of_info info32).2
theorem set_last (w : World) (X : Array Value) (t : TypeId) (j : Nat) (v : Value) : (w.alloc (.cells X t)).setCell ⟨w.heap.size, j, none⟩ v = w.alloc (.cells (X.setIfInBounds j v) t) := by
  rw [setCell_eq_setRow _ _ _ _ _ _ _ (heap_alloc_last w _), World.setRow_alloc_new]
theorem bc_zero : bc zeroB = List.replicate 256 (.int .u8 0) := by unfold bc zeroB; rw [List.map_replicate]; rfl
theorem zero_get (j : Nat) (h : j < 256) : (bc zeroB).toArray[j]? = some (.int .u8 0) := by
  rw [List.getElem?_toArray, bc_zero, List.getElem?_replicate, if_pos h]
theorem zero_size : (bc zeroB).toArray.size = 256 := by rw [List.size_toArray, bc_zero, List.length_replicate]
/-- the block that a number tells -/
def fillB (n : Nat) : Blk := ((((zeroB.set 0 (n % 256)).set 1 (n / 256 % 256)).set 2 (n / 65536 % 256)).set 3 (n / 16777216)).set 255 (n % 256)
theorem fillB_length (n : Nat) : (fillB n).length = 256 := by unfold fillB zeroB; simp only [List.length_set, List.length_replicate]
theorem bc_set (x : Blk) (i b : Nat) : (bc (x.set i b)).toArray = (bc x).toArray.setIfInBounds i (.int .u8 (b : Int)) := by
  unfold bc; rw [List.map_set, List.setIfInBounds_toArray]
theorem below_setRow {B g : Nat} {a w : World} (h : Below B a w) (hg : B ≤ g) (cs : Array Value) : Below B a (w.setRow g cs) :=
  h.trans ⟨rfl, rfl, rfl, by simp, fun k hk => setRow_other w g k cs (by omega)⟩
theorem heap_two (w : World) (a b : Obj) : ((w.alloc a).alloc b).heap[w.heap.size + 1]? = some b := by
  have := heap_alloc_last (w.alloc a) b
  simpa using this
theorem heap_one (w : World) (a b : Obj) : ((w.alloc a).alloc b).heap[w.heap.size]? = some a :=
  (Below.heap_alloc (w.alloc a) b w.heap.size (by simp)).trans (heap_alloc_last w a)
end Go.Proofs.Ytlhhbkpocpnebaa
