/- Blocks as lists of bytes; the law's Fill. -/
import Derived.Test.YtieknecbheeekaaDoorRows
import Derived.Test.YtieknecbheeekaaDoorOps
import Derived.WalkKit
import Derived.WalkSpells
import Derived.WalkLawsBesides
import Derived.Lib.Hide
import Derived.Deep.QuietTactic
import Derived.BigQuiet
import Derived.IntWalk
import Derived.Deep.WholeRow
import Derived.LoopN
set_option linter.unusedVariables false
set_option linter.unusedSimpArgs false
namespace Go.Proofs.YtieknecbheeekaaDoor
open Go.RowKit

abbrev Blk := List Nat
def bc (x : Blk) : List Value := x.map fun (b : Nat) => Value.int .u8 (b : Int)
theorem bc_length (x : Blk) : (bc x).length = x.length := by simp [bc]
theorem bc_one (x : Blk) : ∀ v ∈ bc x, v.oneCell' = true := by
  intro v hv
  obtain ⟨b, _, rfl⟩ := List.mem_map.1 hv
  rfl
def zeroB : Blk := List.replicate 256 0
theorem info32 : (Tryd.prog.info? 34).map (fun i => (i.zero, i.size)) = some (some (.agg (bc zeroB).toArray), 256) := by kernel_rfl
theorem zero32 (w : World) : (zeroValue 34).run Tryd.prog w = .ok (.agg (bc zeroB).toArray) w := (zero_of_info info32).1 w
theorem size32 : (Tryd.prog.info? 34).map (·.size) = some 256 := (zero_of_info info32).2
theorem set_last (w : World) (X : Array Value) (t : TypeId) (j : Nat) (v : Value) : (w.alloc (.cells X t)).setCell ⟨w.heap.size, j, none⟩ v = w.alloc (.cells (X.setIfInBounds j v) t) := by
  rw [setCell_eq_setRow _ _ _ _ _ _ _ (heap_alloc_last w _), World.setRow_alloc_new]
theorem bc_zero : bc zeroB = List.replicate 256 (.int .u8 0) := by unfold bc zeroB; rw [List.map_replicate]; rfl
theorem zero_get (j : Nat) (h : j < 256) : (bc zeroB).toArray[j]? = some (.int .u8 0) := by
  rw [List.getElem?_toArray, bc_zero, List.getElem?_replicate, if_pos h]
theorem zero_size : (bc zeroB).toArray.size = 256 := by rw [List.size_toArray, bc_zero, List.length_replicate]
/-- the block that a number tells -/
def fillB (n : Nat) : Blk := ((((zeroB.set 0 (n % 256)).set 1 (n / 256 % 256)).set 2 (n / 65536 % 256)).set 3 (n / 16777216)).set 255 (n % 256)
theorem fillB_length (n : Nat) : (fillB n).length = 256 := by unfold fillB zeroB; simp only [List.length_set, List.length_replicate]
theorem bc_set (x : Blk) (i b : Nat) : (bc (x.set i b)).toArray = (bc x).toArray.setIfInBounds i (.int .u8 (b : Int)) := by
  unfold bc; rw [List.map_set, List.setIfInBounds_toArray]
set_option maxHeartbeats 1000000 in
theorem fill_any (n : Nat) (hn : n < 4294967296) (w : World) : Calls Tryd.prog 20 #[.int .u32 (n : Int)] w fun e w' => e = .returned (.agg (bc (fillB n)).toArray) ∧ Grow w w' := by
  have hz := zero32
  have z0 := zero_get 0 (by omega)
  have z1 := zero_get 1 (by omega)
  have z2 := zero_get 2 (by omega)
  have z3 := zero_get 3 (by omega)
  have z4 := zero_get 255 (by omega)
  have hs := zero_size
  generalize hZ : (bc zeroB).toArray = Z at *
  have HZ := Lib.hid hZ
  have HS := Lib.hid hs
  clear hZ
  obtain ⟨X, hX⟩ : ∃ X, X = ((((Z.setIfInBounds 0 (Value.int .u8 ((n : Int) % 256))).setIfInBounds 1 (Value.int .u8 ((n : Int) / 256 % 256))).setIfInBounds 2 (Value.int .u8 ((n : Int) / 65536 % 256))).setIfInBounds 3 (Value.int .u8 ((n : Int) / 16777216))).setIfInBounds 255 (Value.int .u8 ((n : Int) % 256)) := ⟨_, rfl⟩
  have HX := Lib.hid hX
  have HF := Lib.hid (show X = (bc (fillB n)).toArray by
    rw [hX, ← HZ.out]; unfold fillB; rw [bc_set, bc_set, bc_set, bc_set, bc_set]; simp)
  have HXs := Lib.hid (show X.size = 256 by rw [hX]; simp [hs])
  have HX1 := Lib.hid (show X.all (·.oneCell') = true by rw [HF.out]; exact all_oneCell_toArray (bc_one _))
  clear hX
  go_enter Tryd.func20, Tryd.ntmps20
  go_wp2
  refine wp_loop_rounds 5 ?_
  rw [rounds_succ]
  go_wp2
  rw [rounds_succ]
  go_wp2
  rw [rounds_succ]
  go_wp2
  rw [rounds_succ]
  go_wp2
  rw [rounds_succ]
  go_wp2_with (first | (refine wpList_load_row rfl _ _ rfl (w.heap.size + 1) rfl 34 _ (0, 0) _ (heap_two _ _ _) Tryd.underlying34 rfl (by rw [← HX.out, HXs.out]; exact size32) ?_) | (rw [← HX.out]; refine wpList_store_row rfl _ _ _ rfl w.heap.size X rfl rfl 34 Z (heap_one _ _ _) (by rw [HXs.out]; exact size32) (by rw [HXs.out]; exact HS.out) HX1.out ?_))
  refine bodyPost_ret (results_cell_row rfl _ _ w.heap.size 34 X (0, 0) _ rfl (setRow_heap _ _ _ _ _ _ (heap_one _ _ _)) Tryd.underlying34 rfl (by rw [HXs.out]; exact size32)) rfl ⟨by rw [HF.out], below_setRow (((Below.refl _ _).alloc (Nat.le_refl _) _).alloc (by simp) _) (Nat.le_refl _) _⟩
#print axioms fill_any
end Go.Proofs.YtieknecbheeekaaDoor
