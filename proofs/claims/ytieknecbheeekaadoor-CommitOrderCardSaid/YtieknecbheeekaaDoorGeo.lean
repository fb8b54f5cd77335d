/- What geo.May and the document's May compute: the walks. -/
import Derived.Test.YtieknecbheeekaaDoorRows
import Derived.WalkKit
import Derived.WalkSpells
import Derived.WalkLawsBesides
import Derived.Lib.Hide
import Derived.Deep.QuietTactic
import Derived.BigQuiet
import Derived.IntWalk
import Derived.Laws.OwnMore
import Derived.Test.YtieknecbheeekaaDoorRegion
import Derived.OrdersIn
import Derived.RangeFuncCalls
import Derived.Below
import Derived.RangeFuncWrites
import Derived.RangeFuncNested
import Derived.RangeFuncBound
import Derived.RangeFuncLeaves
import Derived.Shelf.Abstract
import Derived.OwnWalkIn
import Derived.TacticsInMore
import Derived.LoopNIn
import Derived.LoopIn
import Derived.Sort.CutIn
import Derived.Deep.WholeRow
set_option linter.unusedVariables false
set_option linter.unusedSimpArgs false
namespace Go.Proofs.YtieknecbheeekaaDoor.Geo
open Go.RowKit

/-- all that was there is there still -/
def Grow (w w' : World) : Prop := Below w.heap.size w w'
theorem Grow.refl (w : World) : Grow w w := Below.refl _ _
theorem Grow.trans {a b c : World} (h : Grow a b) (h' : Grow b c) : Grow a c := Below.trans h (Below.mono h' (Below.size h))
theorem Grow.alloc (w : World) (o : Obj) : Grow w (w.alloc o) := (Below.refl _ _).alloc (Nat.le_refl _) _
theorem Grow.drew (w : World) : Grow w w.drew := (Below.refl _ _).drew

/-- a geometry as a value -/
abbrev gv (gr sz ni jr : Int) : Value := .agg #[.int .i64 gr, .int .i64 sz, .int .i64 ni, .int .i64 jr]
/-- may a geometry be? -/
def May (gr sz ni jr : Int) : Prop := 1 ≤ gr ∧ gr ≤ 4 ∧ 16 ≤ sz ∧ sz ≤ 512 ∧ 4 ≤ ni ∧ ni ≤ 64 ∧ ni % 4 = 0 ∧ 40 ≤ jr ∧ jr ≤ 256 ∧ 3 + ni / 4 ≤ sz ∧ 2 + jr + gr * sz ≤ 2048
def I64 (x : Int) : Prop := -9223372036854775808 ≤ x ∧ x ≤ 9223372036854775807
theorem mul_bd {gr sz : Int} (h1 : 1 ≤ gr) (h2 : gr ≤ 4) (h3 : 16 ≤ sz) (h4 : sz ≤ 512) : 16 ≤ gr * sz ∧ gr * sz ≤ 2048 := by
  have a : gr = 1 ∨ gr = 2 ∨ gr = 3 ∨ gr = 4 := by omega
  rcases a with rfl | rfl | rfl | rfl <;> omega

set_option maxHeartbeats 1000000 in
theorem may_yes (gr sz ni jr : Int) (h : May gr sz ni jr) (w : World) :
    Calls Tryd.prog 10 #[gv gr sz ni jr] w fun e w' => e = .returned (.bool true) ∧ Grow w w' := by
  obtain ⟨h1, h2, h3, h4, h5, h6, h7, h8, h9, h10, h11⟩ := h
  have hb := mul_bd h1 h2 h3 h4
  have e7 : (ni % 4 != 0) = false := by rw [h7]; rfl
  clear h7
  go_enter Tryd.func10, Tryd.ntmps10
  go_wp2
  go_ret
  exact ⟨rfl, Grow.alloc _ _⟩
set_option maxHeartbeats 1000000 in
theorem may_1 (gr sz ni jr : Int)  (h1 : gr < 1) (w : World) :
    Calls Tryd.prog 10 #[gv gr sz ni jr] w fun e w' => e = .returned (.bool false) ∧ Grow w w' := by
  go_enter Tryd.func10, Tryd.ntmps10
  go_wp2
  go_ret
  exact ⟨rfl, Grow.alloc _ _⟩
set_option maxHeartbeats 1000000 in
theorem may_2 (gr sz ni jr : Int) (h1 : ¬ (gr < 1)) (h2 : 4 < gr) (w : World) :
    Calls Tryd.prog 10 #[gv gr sz ni jr] w fun e w' => e = .returned (.bool false) ∧ Grow w w' := by
  go_enter Tryd.func10, Tryd.ntmps10
  go_wp2
  go_ret
  exact ⟨rfl, Grow.alloc _ _⟩
set_option maxHeartbeats 1000000 in
theorem may_3 (gr sz ni jr : Int) (h1 : ¬ (gr < 1)) (h2 : ¬ (4 < gr)) (h3 : sz < 16) (w : World) :
    Calls Tryd.prog 10 #[gv gr sz ni jr] w fun e w' => e = .returned (.bool false) ∧ Grow w w' := by
  have p1 : 1 ≤ gr := by omega
  have p2 : gr ≤ 4 := by omega
  go_enter Tryd.func10, Tryd.ntmps10
  go_wp2
  go_ret
  exact ⟨rfl, Grow.alloc _ _⟩
set_option maxHeartbeats 1000000 in
theorem may_4 (gr sz ni jr : Int) (h1 : ¬ (gr < 1)) (h2 : ¬ (4 < gr)) (h3 : ¬ (sz < 16)) (h4 : 512 < sz) (w : World) :
    Calls Tryd.prog 10 #[gv gr sz ni jr] w fun e w' => e = .returned (.bool false) ∧ Grow w w' := by
  have p1 : 1 ≤ gr := by omega
  have p2 : gr ≤ 4 := by omega
  go_enter Tryd.func10, Tryd.ntmps10
  go_wp2
  go_ret
  exact ⟨rfl, Grow.alloc _ _⟩
set_option maxHeartbeats 1000000 in
theorem may_5 (gr sz ni jr : Int) (h1 : ¬ (gr < 1)) (h2 : ¬ (4 < gr)) (h3 : ¬ (sz < 16)) (h4 : ¬ (512 < sz)) (h5 : ni < 4) (w : World) :
    Calls Tryd.prog 10 #[gv gr sz ni jr] w fun e w' => e = .returned (.bool false) ∧ Grow w w' := by
  have p1 : 1 ≤ gr := by omega
  have p2 : gr ≤ 4 := by omega
  have p3 : 16 ≤ sz := by omega
  have p4 : sz ≤ 512 := by omega
  have hb := mul_bd p1 p2 p3 p4
  go_enter Tryd.func10, Tryd.ntmps10
  go_wp2
  go_ret
  exact ⟨rfl, Grow.alloc _ _⟩
set_option maxHeartbeats 1000000 in
theorem may_6 (gr sz ni jr : Int) (h1 : ¬ (gr < 1)) (h2 : ¬ (4 < gr)) (h3 : ¬ (sz < 16)) (h4 : ¬ (512 < sz)) (h5 : ¬ (ni < 4)) (h6 : 64 < ni) (w : World) :
    Calls Tryd.prog 10 #[gv gr sz ni jr] w fun e w' => e = .returned (.bool false) ∧ Grow w w' := by
  have p1 : 1 ≤ gr := by omega
  have p2 : gr ≤ 4 := by omega
  have p3 : 16 ≤ sz := by omega
  have p4 : sz ≤ 512 := by omega
  have hb := mul_bd p1 p2 p3 p4
  go_enter Tryd.func10, Tryd.ntmps10
  go_wp2
  go_ret
  exact ⟨rfl, Grow.alloc _ _⟩
set_option maxHeartbeats 1000000 in
theorem may_7 (gr sz ni jr : Int) (h1 : ¬ (gr < 1)) (h2 : ¬ (4 < gr)) (h3 : ¬ (sz < 16)) (h4 : ¬ (512 < sz)) (h5 : ¬ (ni < 4)) (h6 : ¬ (64 < ni)) (h7 : ni % 4 ≠ 0) (w : World) :
    Calls Tryd.prog 10 #[gv gr sz ni jr] w fun e w' => e = .returned (.bool false) ∧ Grow w w' := by
  have p1 : 1 ≤ gr := by omega
  have p2 : gr ≤ 4 := by omega
  have p3 : 16 ≤ sz := by omega
  have p4 : sz ≤ 512 := by omega
  have hb := mul_bd p1 p2 p3 p4
  have p5 : 4 ≤ ni := by omega
  have p6 : ni ≤ 64 := by omega
  have e7 : (ni % 4 != 0) = true := by rw [bne_iff_ne]; omega
  clear h7
  go_enter Tryd.func10, Tryd.ntmps10
  go_wp2
  go_ret
  exact ⟨rfl, Grow.alloc _ _⟩
set_option maxHeartbeats 1000000 in
theorem may_8 (gr sz ni jr : Int) (h1 : ¬ (gr < 1)) (h2 : ¬ (4 < gr)) (h3 : ¬ (sz < 16)) (h4 : ¬ (512 < sz)) (h5 : ¬ (ni < 4)) (h6 : ¬ (64 < ni)) (h7 : ¬ (ni % 4 ≠ 0)) (h8 : jr < 40) (w : World) :
    Calls Tryd.prog 10 #[gv gr sz ni jr] w fun e w' => e = .returned (.bool false) ∧ Grow w w' := by
  have p1 : 1 ≤ gr := by omega
  have p2 : gr ≤ 4 := by omega
  have p3 : 16 ≤ sz := by omega
  have p4 : sz ≤ 512 := by omega
  have hb := mul_bd p1 p2 p3 p4
  have p5 : 4 ≤ ni := by omega
  have p6 : ni ≤ 64 := by omega
  have e7 : (ni % 4 != 0) = false := by rw [bne_eq_false_iff_eq]; omega
  clear h7
  go_enter Tryd.func10, Tryd.ntmps10
  go_wp2
  go_ret
  exact ⟨rfl, Grow.alloc _ _⟩
set_option maxHeartbeats 1000000 in
theorem may_9 (gr sz ni jr : Int) (h1 : ¬ (gr < 1)) (h2 : ¬ (4 < gr)) (h3 : ¬ (sz < 16)) (h4 : ¬ (512 < sz)) (h5 : ¬ (ni < 4)) (h6 : ¬ (64 < ni)) (h7 : ¬ (ni % 4 ≠ 0)) (h8 : ¬ (jr < 40)) (h9 : 256 < jr) (w : World) :
    Calls Tryd.prog 10 #[gv gr sz ni jr] w fun e w' => e = .returned (.bool false) ∧ Grow w w' := by
  have p1 : 1 ≤ gr := by omega
  have p2 : gr ≤ 4 := by omega
  have p3 : 16 ≤ sz := by omega
  have p4 : sz ≤ 512 := by omega
  have hb := mul_bd p1 p2 p3 p4
  have p5 : 4 ≤ ni := by omega
  have p6 : ni ≤ 64 := by omega
  have e7 : (ni % 4 != 0) = false := by rw [bne_eq_false_iff_eq]; omega
  clear h7
  go_enter Tryd.func10, Tryd.ntmps10
  go_wp2
  go_ret
  exact ⟨rfl, Grow.alloc _ _⟩
set_option maxHeartbeats 1000000 in
theorem may_10 (gr sz ni jr : Int) (h1 : ¬ (gr < 1)) (h2 : ¬ (4 < gr)) (h3 : ¬ (sz < 16)) (h4 : ¬ (512 < sz)) (h5 : ¬ (ni < 4)) (h6 : ¬ (64 < ni)) (h7 : ¬ (ni % 4 ≠ 0)) (h8 : ¬ (jr < 40)) (h9 : ¬ (256 < jr)) (h10 : sz < 3 + ni / 4) (w : World) :
    Calls Tryd.prog 10 #[gv gr sz ni jr] w fun e w' => e = .returned (.bool false) ∧ Grow w w' := by
  have p1 : 1 ≤ gr := by omega
  have p2 : gr ≤ 4 := by omega
  have p3 : 16 ≤ sz := by omega
  have p4 : sz ≤ 512 := by omega
  have hb := mul_bd p1 p2 p3 p4
  have p5 : 4 ≤ ni := by omega
  have p6 : ni ≤ 64 := by omega
  have p8 : 40 ≤ jr := by omega
  have p9 : jr ≤ 256 := by omega
  have e7 : (ni % 4 != 0) = false := by rw [bne_eq_false_iff_eq]; omega
  clear h7
  go_enter Tryd.func10, Tryd.ntmps10
  go_wp2
  go_ret
  exact ⟨rfl, Grow.alloc _ _⟩
set_option maxHeartbeats 1000000 in
theorem may_11 (gr sz ni jr : Int) (h1 : ¬ (gr < 1)) (h2 : ¬ (4 < gr)) (h3 : ¬ (sz < 16)) (h4 : ¬ (512 < sz)) (h5 : ¬ (ni < 4)) (h6 : ¬ (64 < ni)) (h7 : ¬ (ni % 4 ≠ 0)) (h8 : ¬ (jr < 40)) (h9 : ¬ (256 < jr)) (h10 : ¬ (sz < 3 + ni / 4)) (h11 : 2048 < 2 + jr + gr * sz) (w : World) :
    Calls Tryd.prog 10 #[gv gr sz ni jr] w fun e w' => e = .returned (.bool false) ∧ Grow w w' := by
  have p1 : 1 ≤ gr := by omega
  have p2 : gr ≤ 4 := by omega
  have p3 : 16 ≤ sz := by omega
  have p4 : sz ≤ 512 := by omega
  have hb := mul_bd p1 p2 p3 p4
  have p5 : 4 ≤ ni := by omega
  have p6 : ni ≤ 64 := by omega
  have p8 : 40 ≤ jr := by omega
  have p9 : jr ≤ 256 := by omega
  have e7 : (ni % 4 != 0) = false := by rw [bne_eq_false_iff_eq]; omega
  clear h7
  have d11 : decide (2 + jr + gr * sz ≤ 2048) = false := by simp; omega
  go_enter Tryd.func10, Tryd.ntmps10
  go_wp2
  go_ret
  exact ⟨rfl, Grow.alloc _ _⟩
theorem may_no (gr sz ni jr : Int) (h : ¬ May gr sz ni jr) (w : World) :
    Calls Tryd.prog 10 #[gv gr sz ni jr] w fun e w' => e = .returned (.bool false) ∧ Grow w w' := by
  by_cases h1 : gr < 1
  · exact may_1 gr sz ni jr h1 w
  by_cases h2 : 4 < gr
  · exact may_2 gr sz ni jr h1 h2 w
  by_cases h3 : sz < 16
  · exact may_3 gr sz ni jr h1 h2 h3 w
  by_cases h4 : 512 < sz
  · exact may_4 gr sz ni jr h1 h2 h3 h4 w
  by_cases h5 : ni < 4
  · exact may_5 gr sz ni jr h1 h2 h3 h4 h5 w
  by_cases h6 : 64 < ni
  · exact may_6 gr sz ni jr h1 h2 h3 h4 h5 h6 w
  by_cases h7 : ni % 4 ≠ 0
  · exact may_7 gr sz ni jr h1 h2 h3 h4 h5 h6 h7 w
  by_cases h8 : jr < 40
  · exact may_8 gr sz ni jr h1 h2 h3 h4 h5 h6 h7 h8 w
  by_cases h9 : 256 < jr
  · exact may_9 gr sz ni jr h1 h2 h3 h4 h5 h6 h7 h8 h9 w
  by_cases h10 : sz < 3 + ni / 4
  · exact may_10 gr sz ni jr h1 h2 h3 h4 h5 h6 h7 h8 h9 h10 w
  by_cases h11 : 2048 < 2 + jr + gr * sz
  · exact may_11 gr sz ni jr h1 h2 h3 h4 h5 h6 h7 h8 h9 h10 h11 w
  exact absurd (by unfold May; refine ⟨?_, ?_, ?_, ?_, ?_, ?_, ?_, ?_, ?_, ?_, ?_⟩ <;> omega) h
end Go.Proofs.YtieknecbheeekaaDoor.Geo
/- What geo.May and the document's May compute: the walks. -/
set_option linter.unusedVariables false
set_option linter.unusedSimpArgs false
namespace Go.Proofs.YtieknecbheeekaaDoor.Geo
open Go.RowKit

end Go.Proofs.YtieknecbheeekaaDoor.Geo
/- What geo.Inodes, Blocks, Data, Start, Number, Home, Inode compute: the walks. -/
set_option linter.unusedVariables false
set_option linter.unusedSimpArgs false
namespace Go.Proofs.YtieknecbheeekaaDoor.Geo
open Go.RowKit

abbrev gbox (gr sz ni jr : Int) : Obj := .cells #[.int .i64 gr, .int .i64 sz, .int .i64 ni, .int .i64 jr] 23
theorem cell_new (w : World) (cs : Array Value) (t : TypeId) (fz : Nat × Nat) (i : Nat) : (w.alloc (.cells cs t fz)).cell? ⟨w.heap.size, i, none⟩ = cs[i]? := by
  have : (w.alloc (.cells cs t fz)).heap[w.heap.size]? = some (.cells cs t fz) := by
    show (w.heap.push (.cells cs t fz))[w.heap.size]? = _
    simp
  simp only [World.cell?, this]
  rfl
theorem ret_int {k : IntKind} {a b : Int} (h : a = b) : Ending.returned (.int k a) = .returned (.int k b) := by rw [h]
theorem Grow.drewN (w : World) (n : Nat) : Grow w (w.drewN n) := ⟨rfl, rfl, rfl, Nat.le_refl _, fun _ _ => rfl⟩
theorem box_at {w w1 : World} {gr sz ni jr : Int} (h : Grow (w.alloc (gbox gr sz ni jr)) w1) :
    w1.cell? ⟨w.heap.size, 0, none⟩ = some (.int .i64 gr) ∧ w1.cell? ⟨w.heap.size, 1, none⟩ = some (.int .i64 sz) ∧ w1.cell? ⟨w.heap.size, 2, none⟩ = some (.int .i64 ni) ∧ w1.cell? ⟨w.heap.size, 3, none⟩ = some (.int .i64 jr) := by
  have e : ∀ i, w1.cell? ⟨w.heap.size, i, none⟩ = (w.alloc (gbox gr sz ni jr)).cell? ⟨w.heap.size, i, none⟩ := fun i => Below.cell h (by simp)
  refine ⟨?_, ?_, ?_, ?_⟩ <;> rw [e, cell_new] <;> rfl

instance (gr sz ni jr : Int) : Decidable (May gr sz ni jr) := by unfold May; infer_instance
def nInodes (gr sz ni jr : Int) : Int := if May gr sz ni jr then gr * ni else 0
theorem mul_gi {gr ni : Int} (h1 : 1 ≤ gr) (h2 : gr ≤ 4) (h3 : 4 ≤ ni) (h4 : ni ≤ 64) : ni ≤ gr * ni ∧ gr * ni ≤ 256 := by
  have a : gr = 1 ∨ gr = 2 ∨ gr = 3 ∨ gr = 4 := by omega
  rcases a with rfl | rfl | rfl | rfl <;> omega

/-- the number of a group and a bit -/
def numberOf (gr sz ni jr k b : Int) : Int := if May gr sz ni jr ∧ 0 ≤ k ∧ k < gr ∧ 0 ≤ b ∧ b < ni then k * ni + b + 1 else 0
end Go.Proofs.YtieknecbheeekaaDoor.Geo
/- What geo.Inode and the document's Number compute: the walks. -/
set_option linter.unusedVariables false
set_option linter.unusedSimpArgs false
namespace Go.Proofs.YtieknecbheeekaaDoor.Geo
open Go.RowKit

end Go.Proofs.YtieknecbheeekaaDoor.Geo
/- What the document's Home computes: the walk. -/
set_option linter.unusedVariables false
set_option linter.unusedSimpArgs false
namespace Go.Proofs.YtieknecbheeekaaDoor.Geo
open Go.RowKit

theorem home_at (ino ni k b : Int) (hn : 1 ≤ ni) (h : ino = k * ni + b + 1) (hb : 0 ≤ b) (hb2 : b < ni) : (ino - 1) / ni = k ∧ (ino - 1) % ni = b := by
  have e : ino - 1 = b + k * ni := by omega
  rw [e, Int.add_mul_ediv_right _ _ (by omega), Int.add_mul_emod_self_right, Int.ediv_eq_zero_of_lt hb hb2, Int.emod_eq_of_lt hb hb2]
  omega
/-- the answer of Home -/
def homeOf (gr sz ni jr ino : Int) : Value :=
  if 1 ≤ ino ∧ ino ≤ nInodes gr sz ni jr then .tuple #[.int .i64 ((ino - 1) / ni), .int .i64 ((ino - 1) % ni), .bool true] else .tuple #[.int .i64 0, .int .i64 0, .bool false]

end Go.Proofs.YtieknecbheeekaaDoor.Geo
/- What the document's All computes: the walk. -/
set_option linter.unusedVariables false
set_option linter.unusedSimpArgs false
namespace Go.Proofs.YtieknecbheeekaaDoor.Geo
open Go.RowKit

/-- what a block is -/
structure Th where
  kind : Nat
  group : Nat
  pos : Nat
  ino : Nat
def Th.cells (t : Th) : List Value := [.int .u8 (t.kind : Int), .int .i64 (t.group : Int), .int .i64 (t.pos : Int), .int .i64 (t.ino : Int)]
def cellsOf (l : List Th) : List Value := l.flatMap Th.cells
theorem cellsOf_length (l : List Th) : (cellsOf l).length = l.length * 4 := by
  induction l with
  | nil => rfl
  | cons t l ih => simp only [cellsOf, List.flatMap_cons, List.length_append, List.length_cons] at ih ⊢; rw [ih]; simp [Th.cells]; omega
theorem cellsOf_append (a b : List Th) : cellsOf (a ++ b) = cellsOf a ++ cellsOf b := List.flatMap_append
theorem cellsOf_one (l : List Th) : ∀ u ∈ cellsOf l, u.oneCell' = true := by
  intro u hu
  obtain ⟨t, _, h⟩ := List.mem_flatMap.1 hu
  simp only [Th.cells, List.mem_cons, List.not_mem_nil, or_false] at h
  rcases h with rfl | rfl | rfl | rfl <;> rfl
def jth (i : Nat) : Th := ⟨3, 0, i, 0⟩
def tth (ni g i : Nat) : Th := ⟨6, g, 2 + i, 1 + g * ni + 4 * i⟩
def dth (ni g i : Nat) : Th := ⟨7, g, 2 + ni / 4 + i, 0⟩
def head2 : List Th := [⟨1, 0, 0, 0⟩, ⟨2, 0, 0, 0⟩]
def grp2 (g : Nat) : List Th := [⟨4, g, 0, 0⟩, ⟨5, g, 1, 0⟩]
def grp (sz ni g : Nat) : List Th := grp2 g ++ (List.range (ni / 4)).map (tth ni g) ++ (List.range (sz - 2 - ni / 4)).map (dth ni g)
def allT (gr sz ni jr : Nat) : List Th := head2 ++ (List.range jr).map jth ++ (List.range gr).flatMap (grp sz ni)
theorem grp_length (sz ni g : Nat) (h : 2 + ni / 4 ≤ sz) : (grp sz ni g).length = sz := by simp [grp, grp2]; omega
theorem heap_new (w : World) (o : Obj) : (w.alloc o).heap[w.heap.size]? = some o := by
  show (w.heap.push o)[w.heap.size]? = _
  simp
theorem grown_grow {w w1 w2 : World} {row : Option Nat} (h : Grow w w1) (hg : w1.grownBy w2 row) (hr : ∀ g, row = some g → w.heap.size ≤ g) : Grow w w2 := Below.grown h hg (Below.size h) hr

end Go.Proofs.YtieknecbheeekaaDoor.Geo
/- Which thing each block is, by its number: plain facts. -/
set_option linter.unusedVariables false
set_option linter.unusedSimpArgs false
namespace Go.Proofs.YtieknecbheeekaaDoor.Geo

/-- what a block is, by its number -/
def whatT (sz ni jr idx : Nat) : Th :=
  if idx < 2 then ⟨idx + 1, 0, 0, 0⟩
  else if idx < 2 + jr then ⟨3, 0, idx - 2, 0⟩
  else if (idx - 2 - jr) % sz < 2 then ⟨4 + (idx - 2 - jr) % sz, (idx - 2 - jr) / sz, (idx - 2 - jr) % sz, 0⟩
  else if (idx - 2 - jr) % sz < 2 + ni / 4 then ⟨6, (idx - 2 - jr) / sz, (idx - 2 - jr) % sz, 1 + (idx - 2 - jr) / sz * ni + 4 * ((idx - 2 - jr) % sz - 2)⟩
  else ⟨7, (idx - 2 - jr) / sz, (idx - 2 - jr) % sz, 0⟩
theorem what_grp (sz ni jr g y : Nat) (hy : y < sz) : whatT sz ni jr (2 + jr + (g * sz + y)) =
    if y < 2 then ⟨4 + y, g, y, 0⟩ else if y < 2 + ni / 4 then ⟨6, g, y, 1 + g * ni + 4 * (y - 2)⟩ else ⟨7, g, y, 0⟩ := by
  have e0 : 2 + jr + (g * sz + y) - 2 - jr = g * sz + y := by omega
  have e1 : (g * sz + y) % sz = y := by rw [Nat.add_comm, Nat.add_mul_mod_self_right, Nat.mod_eq_of_lt hy]
  have e2 : (g * sz + y) / sz = g := by rw [Nat.add_comm, Nat.add_mul_div_right _ _ (by omega), Nat.div_eq_of_lt hy]; omega
  unfold whatT
  rw [e0, e1, e2, if_neg (by omega), if_neg (by omega)]
theorem grp_eq (sz ni jr g : Nat) (h : 2 + ni / 4 ≤ sz) : grp sz ni g = (List.range sz).map fun y => whatT sz ni jr (2 + jr + (g * sz + y)) := by
  have hs : sz = 2 + (ni / 4 + (sz - 2 - ni / 4)) := by omega
  have h1 : (List.range sz).map (fun y => whatT sz ni jr (2 + jr + (g * sz + y))) = (List.range sz).map fun y => (if y < 2 then ⟨4 + y, g, y, 0⟩ else if y < 2 + ni / 4 then ⟨6, g, y, 1 + g * ni + 4 * (y - 2)⟩ else ⟨7, g, y, 0⟩ : Th) :=
    List.map_congr_left fun y hy => what_grp sz ni jr g y (List.mem_range.1 hy)
  rw [h1]
  conv => rhs; rw [hs]
  rw [List.range_add, List.range_add, List.map_append, List.map_append, List.map_append]
  unfold grp
  rw [List.append_assoc]
  congr 1
  simp only [List.map_map]
  congr 1
  · refine List.map_congr_left fun i hi => ?_
    have := List.mem_range.1 hi
    simp only [Function.comp]
    rw [if_neg (by omega), if_pos (by omega)]
    show (⟨6, g, 2 + i, 1 + g * ni + 4 * i⟩ : Th) = _
    rw [show 2 + i - 2 = i by omega]
  · refine List.map_congr_left fun i hi => ?_
    simp only [Function.comp]
    rw [if_neg (by omega), if_neg (by omega)]
    show (⟨7, g, 2 + ni / 4 + i, 0⟩ : Th) = _
    rw [Nat.add_assoc]
theorem allT_eq (gr sz ni jr : Nat) (h : 2 + ni / 4 ≤ sz) : allT gr sz ni jr = (List.range (2 + jr + gr * sz)).map (whatT sz ni jr) := by
  unfold allT
  rw [List.range_add, List.map_append, List.range_add, List.map_append]
  congr 1
  · congr 1
    rw [List.map_map]
    refine List.map_congr_left fun i hi => ?_
    have := List.mem_range.1 hi
    simp only [Function.comp]
    unfold whatT jth
    rw [if_neg (by omega), if_pos (by omega), show 2 + i - 2 = i by omega]
  · rw [List.map_map]
    induction gr with
    | zero => simp
    | succ g ih =>
      rw [List.range_succ, List.flatMap_append, ih, Nat.add_mul, Nat.one_mul, List.range_add, List.map_append]
      congr 1
      simp only [List.flatMap_cons, List.flatMap_nil, List.append_nil, List.map_map]
      rw [grp_eq sz ni jr g h]
      refine List.map_congr_left fun y _ => ?_
      simp only [Function.comp]
theorem allT_length (gr sz ni jr : Nat) (h : 2 + ni / 4 ≤ sz) : (allT gr sz ni jr).length = 2 + jr + gr * sz := by rw [allT_eq gr sz ni jr h]; simp
theorem allT_get (gr sz ni jr k : Nat) (h : 2 + ni / 4 ≤ sz) (hk : k < 2 + jr + gr * sz) : (allT gr sz ni jr)[k]? = some (whatT sz ni jr k) := by
  rw [allT_eq gr sz ni jr h]; simp [hk]
/-- is a block the one of the table that has an inode? -/
def hasIno (ino : Int) (t : Th) : Prop := t.kind = 6 ∧ (t.ino : Int) ≤ ino ∧ ino < (t.ino : Int) + 4
/-- just one block has it -/
theorem hasIno_iff (gr sz ni jr k : Nat) (ino : Int) (h : 2 + ni / 4 ≤ sz) (h4 : ni % 4 = 0) (hn : 4 ≤ ni) (hk : k < 2 + jr + gr * sz) :
    hasIno ino (whatT sz ni jr k) ↔ 1 ≤ ino ∧ ino ≤ (gr : Int) * ni ∧ (k : Int) = 2 + jr + (ino - 1) / ni * sz + 2 + (ino - 1) % ni / 4 := by
  constructor
  · intro ⟨h1, h2, h3⟩
    unfold whatT at h1 h2 h3
    by_cases a1 : k < 2
    · rw [if_pos a1] at h1; simp at h1; omega
    rw [if_neg a1] at h1 h2 h3
    by_cases a2 : k < 2 + jr
    · rw [if_pos a2] at h1; simp at h1
    rw [if_neg a2] at h1 h2 h3
    have hx : k - 2 - jr < gr * sz := by omega
    generalize hxx : k - 2 - jr = x at *
    have hg : x / sz < gr := Nat.div_lt_of_lt_mul (by rw [Nat.mul_comm]; exact hx)
    have hy : x % sz < sz := Nat.mod_lt _ (by omega)
    have hxd := Nat.div_add_mod x sz
    generalize x / sz = g at *
    generalize x % sz = y at *
    by_cases a3 : y < 2
    · rw [if_pos a3] at h1; simp at h1; omega
    rw [if_neg a3] at h1 h2 h3
    by_cases a4 : y < 2 + ni / 4
    · rw [if_pos a4] at h2 h3
      dsimp only at h2 h3
      obtain ⟨i, rfl⟩ : ∃ i, y = 2 + i := ⟨y - 2, by omega⟩
      rw [show 2 + i - 2 = i by omega] at h2 h3
      have e1 : ((1 + g * ni + 4 * i : Nat) : Int) = 1 + (g : Int) * ni + 4 * i := by simp
      rw [e1] at h2 h3
      have hgn : (g : Int) * ni + ni ≤ (gr : Int) * ni := by
        have h5 : ((g : Int) + 1) * ni ≤ (gr : Int) * ni := Int.mul_le_mul_of_nonneg_right (by omega) (by omega)
        rw [Int.add_mul] at h5
        omega
      have hgn0 : 0 ≤ (g : Int) * ni := Int.mul_nonneg (by omega) (by omega)
      have hh := home_at ino ni g (ino - 1 - (g : Int) * ni) (by omega) (by omega) (by omega) (by omega)
      rw [hh.1, hh.2]
      refine ⟨by omega, by omega, ?_⟩
      have e2 : (g : Int) * sz = ((sz * g : Nat) : Int) := by rw [Nat.mul_comm]; simp
      rw [e2]
      omega
    · rw [if_neg a4] at h1; simp at h1
  · intro ⟨h1, h2, h3⟩
    obtain ⟨n, hn'⟩ : ∃ n : Nat, ino - 1 = (n : Int) := ⟨(ino - 1).toNat, by omega⟩
    have hnl : n < gr * ni := by
      have : ((gr * ni : Nat) : Int) = (gr : Int) * ni := by simp
      omega
    rw [hn'] at h3
    have e1 : (n : Int) / ni = ((n / ni : Nat) : Int) := by simp
    have e2 : (n : Int) % ni = ((n % ni : Nat) : Int) := by simp
    rw [e1, e2] at h3
    have hy : n % ni < ni := Nat.mod_lt _ (by omega)
    have hd := Nat.div_add_mod n ni
    generalize hg : n / ni = g at *
    generalize hr : n % ni = r at *
    have e3 : (g : Int) * sz = ((g * sz : Nat) : Int) := by simp
    rw [e3] at h3
    have hke : k = 2 + jr + (g * sz + (2 + r / 4)) := by omega
    rw [hke, what_grp sz ni jr g (2 + r / 4) (by omega), if_neg (by omega), if_pos (by omega)]
    refine ⟨rfl, ?_, ?_⟩ <;> dsimp only
    · have e4 : ni * g = g * ni := Nat.mul_comm _ _
      omega
    · have e4 : ni * g = g * ni := Nat.mul_comm _ _
      omega
end Go.Proofs.YtieknecbheeekaaDoor.Geo
/- What the document's Inode computes: the walk. -/
set_option linter.unusedVariables false
set_option linter.unusedSimpArgs false
namespace Go.Proofs.YtieknecbheeekaaDoor.Geo
open Go.RowKit

/-- the answer of Inode -/
def inodeOf (gr sz ni jr ino : Int) : Value :=
  if 1 ≤ ino ∧ ino ≤ nInodes gr sz ni jr then .tuple #[.int .i64 (2 + jr + (ino - 1) / ni * sz + 2 + (ino - 1) % ni / 4), .int .i64 ((ino - 1) % ni % 4 * 64), .bool true] else .tuple #[.int .i64 0, .int .i64 0, .bool false]

theorem what_ino (gr sz ni jr k : Nat) (hs : 0 < sz) (hs2 : sz ≤ 512) (hg4 : gr ≤ 4) (h4 : ni % 4 = 0) (hn : ni ≤ 64) (hk : k < 2 + jr + gr * sz) : (whatT sz ni jr k).ino ≤ 100000 ∧ ((whatT sz ni jr k).kind = 6 → 1 ≤ (whatT sz ni jr k).ino ∧ ((whatT sz ni jr k).ino - 1) % 4 = 0) := by
  unfold whatT
  by_cases a1 : k < 2
  · rw [if_pos a1]; exact ⟨by simp, fun h => by simp at h; omega⟩
  rw [if_neg a1]
  by_cases a2 : k < 2 + jr
  · rw [if_pos a2]; exact ⟨by simp, fun h => by simp at h⟩
  rw [if_neg a2]
  have hx : k - 2 - jr < gr * sz := by omega
  generalize k - 2 - jr = x at *
  have hg : x / sz < gr := Nat.div_lt_of_lt_mul (by rw [Nat.mul_comm]; exact hx)
  have hy : x % sz < sz := Nat.mod_lt _ hs
  generalize x / sz = g at *
  generalize x % sz = y at *
  by_cases a3 : y < 2
  · rw [if_pos a3]; exact ⟨by simp, fun h => by simp at h; omega⟩
  rw [if_neg a3]
  by_cases a4 : y < 2 + ni / 4
  · rw [if_pos a4]
    dsimp only
    have hgn : g * ni ≤ 4 * 64 := Nat.mul_le_mul (by omega) hn
    have hmod : g * ni % 4 = 0 := by rw [Nat.mul_mod, h4]; simp
    exact ⟨by omega, fun _ => ⟨by omega, by omega⟩⟩
  · rw [if_neg a4]; exact ⟨by simp, fun h => by simp at h⟩
theorem mod_of (ino ni : Int) (ti : Nat) (h4 : ni % 4 = 0) (h1 : (ti : Int) ≤ ino) (h2 : ino < (ti : Int) + 4) (h3 : 1 ≤ ti) (h5 : (ti - 1) % 4 = 0) (hn : 0 < ni) : (ino - 1) % ni % 4 * 64 = 64 * (ino - ti) := by
  have e : (ino - 1) % ni % 4 = (ino - 1) % 4 := Int.emod_emod_of_dvd _ (by omega)
  rw [e]
  omega

end Go.Proofs.YtieknecbheeekaaDoor.Geo
/- The law GeoInodes: the walk. -/
set_option linter.unusedVariables false
set_option linter.unusedSimpArgs false
namespace Go.Proofs.YtieknecbheeekaaDoor.Geo
open Go.RowKit

theorem may_nat {gr sz ni jr : Int} (h : May gr sz ni jr) : ∃ a b c d : Nat, gr = a ∧ sz = b ∧ ni = c ∧ jr = d := by
  obtain ⟨h1, h2, h3, h4, h5, h6, h7, h8, _⟩ := h
  exact ⟨gr.toNat, sz.toNat, ni.toNat, jr.toNat, by omega, by omega, by omega, by omega⟩
theorem inode_form (gr sz ni jr ino : Int) : ∃ x y b, inodeOf gr sz ni jr ino = .tuple #[.int .i64 x, .int .i64 y, .bool b] := by
  unfold inodeOf; split <;> exact ⟨_, _, _, rfl⟩
theorem home_form (gr sz ni jr ino : Int) : ∃ x y b, homeOf gr sz ni jr ino = .tuple #[.int .i64 x, .int .i64 y, .bool b] := by
  unfold homeOf; split <;> exact ⟨_, _, _, rfl⟩

end Go.Proofs.YtieknecbheeekaaDoor.Geo
/- What was shown of a region in the plain calculus holds in a round of a loop over a function, at the wide fence. -/
namespace Go.Proofs.YtieknecbheeekaaDoor.Geo
open Go
section
variable {P : Program} {ops : Array Oper} {Q : Exit → Act → World → Prop} {md : Region.Mode}

theorem oper_round (l n : Nat) {o : Oper} {a : Act} {w : World} {K : Act → World → Prop} (hd : ∀ c, o.op ≠ .defer c) (h : o.wp P a w K Q) : o.wpIn (Fence.wide.inRound l) n P a w K Q := by
  unfold Oper.wp at h
  refine ⟨fun _ _ => trivial, ?_⟩
  rw [Oper.semAt_eq _ _ _ hd]
  generalize (execOp a.eval o).run P w = r at *
  cases r with
  | ok x w' =>
    cases x <;> simp only [Oper.upon, Oper.uponIn] at h ⊢ <;>
      first
        | exact h
        | exact ⟨fun h => (by cases h), CallsIn.inRound l (callsIn_wide.2 h)⟩
        | exact ⟨fun h => (by cases h), fun c cs _ => let ⟨v, w', r, s⟩ := h c cs; ⟨v, w', r, stepsIn_wide.2 s⟩⟩
  | halt x w' => cases x <;> simp only [Oper.upon, Oper.uponIn] at h ⊢ <;> exact h

def noDefer (ops : Array Oper) : Bool := ops.all fun o => match o.op with | .defer _ => false | _ => true
theorem noDefer_at (h : noDefer ops = true) {i : Nat} {o : Oper} (ho : ops[i]? = some o) (c) : o.op ≠ .defer c := by
  intro e
  unfold noDefer at h
  rw [Array.all_eq_true] at h
  obtain ⟨hi, rfl⟩ := Array.getElem?_eq_some_iff.1 ho
  have := h i hi
  rw [e] at this
  cases this

theorem wpAny_round (l n : Nat) (hQ : ¬ LetsOut Q) (hd : noDefer ops = true) : ∀ (fuel : Nat) (listed : Array Bool) (a : Act) (w : World), wpAny P md ops Q fuel listed a w → wpAnyIn (Fence.wide.inRound l) n P md ops Q fuel listed a w := by
  intro fuel
  induction fuel with
  | zero => intro listed a w h; exact h
  | succ fuel ih =>
    intro listed a w h
    refine ⟨h.1, fun i hi => ?_⟩
    have h1 := h.2 i hi
    unfold wpOp at h1
    unfold wpOpIn
    cases ho : ops[i]? with
    | none => simp only [ho] at h1 ⊢; exact ih _ _ _ h1
    | some o =>
      simp only [ho] at h1 ⊢
      split
      · rename_i hw
        rw [if_pos hw] at h1
        rcases h1 with h1 | h1
        · exact Oper.wpIn_mono (fun a w h => ih _ a w h) (oper_round l n (noDefer_at hd ho) h1)
        · exact absurd h1.2 hQ
      · rename_i hw
        rw [if_neg hw] at h1
        exact ⟨fun _ _ => trivial, ih _ _ _ h1⟩

theorem round_region_facts {id : Nat} {l : List Oper} {a0 : Act} {w : World} (lp n : Nat) (hQ : ¬ LetsOut Q) (hd : noDefer l.toArray = true) (hm : P.follows .mixedOrders = true) (pre : List (List (Nat × Option Tmp))) (all : List (Nat × Option Tmp))
    (hB : preB .any l.toArray (Array.replicate l.length false) (all.map (·.1)) (fun j => (pre.getD j []).map (·.1)) = true)
    (hP : ((all :: pre).all fun q => q.all fun p => dstAt l.toArray p.1 == p.2) = true) (hR : all.map (·.1) = List.range l.length)
    (R : World → World → Prop) (hrefl : ∀ w, R w w) (htrans : ∀ a b c, R a b → R b c → R a c) (A : List (Value → World → Prop)) (hlen : A.length = l.length) (hA : AllStab R A)
    (hop : OpsOK P l.toArray a0 w.drew R (fun j => A.getD j fun _ _ => True) (fun j => pre.getD j []) 0 l)
    (hfin : ∀ (vals : Nat → Value) (w' : World), R w.drew w' → AllFacts vals w' 0 A → Q .normal (canonP vals a0 all) w') : (Code.region id l.toArray true).wpIn (Fence.wide.inRound lp) n P Q a0 w := by
  have hdst : ∀ q ∈ all :: pre, (q.all fun p => dstAt l.toArray p.1 == p.2) = true := fun q hq => List.all_eq_true.1 hP q hq
  have hpre : ∀ j, ((pre.getD j []).all fun p => dstAt l.toArray p.1 == p.2) = true := fun j => by
    rw [List.getD_eq_getElem?_getD]
    cases h : pre[j]? with
    | none => rfl
    | some q => exact hdst q (List.mem_cons_of_mem _ (List.mem_of_getElem? h))
  refine wpIn_region_any hm (wpAny_round lp n hQ hd _ _ _ _ ?_)
  refine wpAny_facts (Array.replicate l.length false) (all.map (·.1)) (fun j => (pre.getD j []).map (·.1)) hB a0 w.drew R hrefl (fun a b h h' => htrans _ _ _ h h') (fun j => A.getD j fun _ _ => True)
    (fun j v w w' h hX => AllStab.at A j hA v w w' h hX) ?_ ?_ _ (by rw [hR]; simp)
  · intro j _ o ho vals w' hw hf
    have h1 := hop.at l 0 j o (by simpa using ho) vals w' hw (factsP_of _ (by simpa using hf))
    rw [canonP_eq (ops := l.toArray) vals _ _ (hpre (0 + j)), Nat.zero_add] at h1
    exact h1
  · intro vals w' hw hf
    have h1 := hfin vals w' hw (allFacts_of A 0 fun k hk => by
      rw [Nat.zero_add]
      exact hf k (by rw [hR, List.mem_range, ← hlen]; exact hk))
    rw [canonP_eq (ops := l.toArray) vals _ _ (hdst all (by simp))] at h1
    exact h1
end
end Go.Proofs.YtieknecbheeekaaDoor.Geo
/- A region that draws its order and stores into some one-cell blocks: what stands of the world while it is on its way. -/
namespace Go.Proofs.YtieknecbheeekaaDoor.Geo
open Go Go.RowKit
/-- T: the blocks that are stored into, and what is stored; all else is as it was -/
def WR (n₀ : Nat) (T : Nat → Option Value) (w w' : World) : Prop :=
  (∀ a : Addr, T a.block = none → w'.cell? a = w.cell? a) ∧ (∀ a, w'.frozen? a = w.frozen? a) ∧ (∀ a, (w.cell? a).isSome = true → (w'.cell? a).isSome = true) ∧
  (∀ b v, T b = some v → w.cell? ⟨b, 0, none⟩ = some v → w'.cell? ⟨b, 0, none⟩ = some v) ∧ KeepsOthers w w' ∧ Below n₀ w w' ∧ w'.heap.size = w.heap.size
theorem WR.refl (n₀ : Nat) (T : Nat → Option Value) (w : World) : WR n₀ T w w := ⟨fun _ _ => rfl, fun _ => rfl, fun _ h => h, fun _ _ _ h => h, KeepsOthers.refl w, Below.refl _ _, rfl⟩
theorem WR.trans {n₀ : Nat} {T : Nat → Option Value} {a b c : World} (h : WR n₀ T a b) (k : WR n₀ T b c) : WR n₀ T a c :=
  ⟨fun x hx => (k.1 x hx).trans (h.1 x hx), fun x => (k.2.1 x).trans (h.2.1 x), fun x hx => k.2.2.1 x (h.2.2.1 x hx), fun x v hx hv => k.2.2.2.1 x v hx (h.2.2.2.1 x v hx hv), h.2.2.2.2.1.trans k.2.2.2.2.1, h.2.2.2.2.2.1.trans k.2.2.2.2.2.1, k.2.2.2.2.2.2.trans h.2.2.2.2.2.2⟩
theorem WR.drew (n₀ : Nat) (T : Nat → Option Value) (w : World) : WR n₀ T w w.drew := ⟨fun _ _ => rfl, fun _ => rfl, fun _ h => h, fun _ _ _ h => h, KeepsOthers.drew w, (Below.refl _ _).drew, rfl⟩
theorem WR.store {n₀ b : Nat} {T : Nat → Option Value} {v : Value} (w : World) (hT : T b = some v) (hb : n₀ ≤ b) : WR n₀ T w (w.setCell ⟨b, 0, none⟩ v) := by
  refine ⟨fun a ha => World.cell?_setCell_other _ _ _ _ (fun e => ?_), fun a => World.frozen?_setCell _ _ _ _, fun a ha => ?_, fun b' v' hT' hv' => ?_, KeepsOthers.setCell _ _ _, (Below.refl _ _).setCell hb _, by simp⟩
  · rw [← e] at ha; rw [hT] at ha; cases ha
  · by_cases e : a = ⟨b, 0, none⟩
    · subst e; rw [World.cell?_setCell_same' _ _ _ ha]; rfl
    · rw [World.cell?_setCell_other _ _ _ _ (fun h => e h.symm)]; exact ha
  · by_cases e : b' = b
    · subst e
      rw [hT] at hT'
      cases hT'
      exact World.cell?_setCell_same' _ _ _ (by rw [hv']; rfl)
    · rw [World.cell?_setCell_other _ _ _ _ (fun h => e (by cases h; rfl))]; exact hv'
/-- a one-cell block holds that -/
def CellIs (b : Nat) (v : Value) : Value → World → Prop := fun _ w => w.cell? ⟨b, 0, none⟩ = some v
theorem cellIs_stab {n₀ b : Nat} {T : Nat → Option Value} {v : Value} (h : T b = some v) : Stab (WR n₀ T) (CellIs b v) := fun _ _ _ hr hx => hr.2.2.2.1 b v h hx
theorem cellIs_set {b : Nat} {v u : Value} {w : World} (h : (w.cell? ⟨b, 0, none⟩).isSome = true) : CellIs b v u (w.setCell ⟨b, 0, none⟩ v) := World.cell?_setCell_same' _ _ _ h
theorem CellIs.out {b : Nat} {v u : Value} {w : World} (h : CellIs b v u w) : w.cell? ⟨b, 0, none⟩ = some v := h
end Go.Proofs.YtieknecbheeekaaDoor.Geo
/- The parts of an image: the iterator of geo.parts, for whatever loop body. -/
set_option linter.unusedVariables false
set_option linter.unusedSimpArgs false
namespace Go.Proofs.YtieknecbheeekaaDoor.Geo
open Go.RowKit Go.Shelf
attribute [local go_sem] Oper.semAt_some

structure Pt where
  kind : Nat
  group : Nat
  fr : Nat
  size : Nat
  place : Nat
def Pt.v (p : Pt) : Value := .agg #[.int .u8 (p.kind : Int), .int .i64 (p.group : Int), .int .i64 (p.fr : Int), .int .i64 (p.size : Int), .int .i64 (p.place : Int)]
def hd3 (jr : Nat) : List Pt := [⟨1, 0, 0, 1, 0⟩, ⟨2, 0, 1, 1, 0⟩, ⟨3, 0, 2, jr, 0⟩]
def own4 (sz ni jr g : Nat) : List Pt := [⟨4, g, 2 + jr + g * sz, 1, 0⟩, ⟨5, g, 2 + jr + g * sz + 1, 1, 1⟩, ⟨6, g, 2 + jr + g * sz + 2, ni / 4, 2⟩, ⟨7, g, 2 + jr + g * sz + 2 + ni / 4, sz - 2 - ni / 4, 2 + ni / 4⟩]
def partsOf (gr sz ni jr : Nat) : List Pt := hd3 jr ++ (List.range gr).flatMap (own4 sz ni jr)

def GAt (W : World) (Bn : Nat) (gr sz ni jr : Nat) : Prop :=
  W.cell? ⟨Bn, 0, none⟩ = some (.int .i64 (gr : Int)) ∧ W.cell? ⟨Bn, 1, none⟩ = some (.int .i64 (sz : Int)) ∧ W.cell? ⟨Bn, 2, none⟩ = some (.int .i64 (ni : Int)) ∧ W.cell? ⟨Bn, 3, none⟩ = some (.int .i64 (jr : Int))
theorem GAt.below {n₀ Bn gr sz ni jr : Nat} {A B : World} (h : GAt A Bn gr sz ni jr) (hb : Below n₀ A B) (hlt : Bn < n₀) : GAt B Bn gr sz ni jr :=
  ⟨(hb.cell (p := ⟨Bn, 0, none⟩) hlt).trans h.1, (hb.cell (p := ⟨Bn, 1, none⟩) hlt).trans h.2.1, (hb.cell (p := ⟨Bn, 2, none⟩) hlt).trans h.2.2.1, (hb.cell (p := ⟨Bn, 3, none⟩) hlt).trans h.2.2.2⟩


theorem ix3_0 (x0 x1 x2 x3 x4 x5 x6 x7 x8 x9 x10 x11 x12 x13 x14 : Value) (w : World) : (Instr.index 123 (.agg #[x0, x1, x2, x3, x4, x5, x6, x7, x8, x9, x10, x11, x12, x13, x14]) (.int .i64 0)).run Tryd.prog w = .ok (.agg #[x0, x1, x2, x3, x4]) w := by kernel_rfl
theorem ix3_1 (x0 x1 x2 x3 x4 x5 x6 x7 x8 x9 x10 x11 x12 x13 x14 : Value) (w : World) : (Instr.index 123 (.agg #[x0, x1, x2, x3, x4, x5, x6, x7, x8, x9, x10, x11, x12, x13, x14]) (.int .i64 1)).run Tryd.prog w = .ok (.agg #[x5, x6, x7, x8, x9]) w := by kernel_rfl
theorem ix3_2 (x0 x1 x2 x3 x4 x5 x6 x7 x8 x9 x10 x11 x12 x13 x14 : Value) (w : World) : (Instr.index 123 (.agg #[x0, x1, x2, x3, x4, x5, x6, x7, x8, x9, x10, x11, x12, x13, x14]) (.int .i64 2)).run Tryd.prog w = .ok (.agg #[x10, x11, x12, x13, x14]) w := by kernel_rfl
theorem ix4_0 (x0 x1 x2 x3 x4 x5 x6 x7 x8 x9 x10 x11 x12 x13 x14 x15 x16 x17 x18 x19 : Value) (w : World) : (Instr.index 124 (.agg #[x0, x1, x2, x3, x4, x5, x6, x7, x8, x9, x10, x11, x12, x13, x14, x15, x16, x17, x18, x19]) (.int .i64 0)).run Tryd.prog w = .ok (.agg #[x0, x1, x2, x3, x4]) w := by kernel_rfl
theorem ix4_1 (x0 x1 x2 x3 x4 x5 x6 x7 x8 x9 x10 x11 x12 x13 x14 x15 x16 x17 x18 x19 : Value) (w : World) : (Instr.index 124 (.agg #[x0, x1, x2, x3, x4, x5, x6, x7, x8, x9, x10, x11, x12, x13, x14, x15, x16, x17, x18, x19]) (.int .i64 1)).run Tryd.prog w = .ok (.agg #[x5, x6, x7, x8, x9]) w := by kernel_rfl
theorem ix4_2 (x0 x1 x2 x3 x4 x5 x6 x7 x8 x9 x10 x11 x12 x13 x14 x15 x16 x17 x18 x19 : Value) (w : World) : (Instr.index 124 (.agg #[x0, x1, x2, x3, x4, x5, x6, x7, x8, x9, x10, x11, x12, x13, x14, x15, x16, x17, x18, x19]) (.int .i64 2)).run Tryd.prog w = .ok (.agg #[x10, x11, x12, x13, x14]) w := by kernel_rfl
theorem ix4_3 (x0 x1 x2 x3 x4 x5 x6 x7 x8 x9 x10 x11 x12 x13 x14 x15 x16 x17 x18 x19 : Value) (w : World) : (Instr.index 124 (.agg #[x0, x1, x2, x3, x4, x5, x6, x7, x8, x9, x10, x11, x12, x13, x14, x15, x16, x17, x18, x19]) (.int .i64 3)).run Tryd.prog w = .ok (.agg #[x15, x16, x17, x18, x19]) w := by kernel_rfl
attribute [local go_sem] ix3_0 ix3_1 ix3_2 ix4_0 ix4_1 ix4_2 ix4_3
theorem parts_grp (gr sz ni jr g : Nat) (h : g < gr) (pre : List Pt) (hp : pre <+: own4 sz ni jr g) : hd3 jr ++ (List.range g).flatMap (own4 sz ni jr) ++ pre <+: partsOf gr sz ni jr := by
  obtain ⟨d, rfl⟩ : ∃ d, gr = g + 1 + d := ⟨gr - g - 1, by omega⟩
  obtain ⟨t, ht⟩ := hp
  refine ⟨t ++ ((List.range d).map (fun i => g + 1 + i)).flatMap (own4 sz ni jr), ?_⟩
  unfold partsOf
  rw [List.range_add, List.range_succ, List.flatMap_append, List.flatMap_append, List.flatMap_cons, List.flatMap_nil, List.append_nil, ← ht]
  simp only [List.append_assoc]
theorem upto_grp (sz ni jr g : Nat) : (List.range (g + 1)).flatMap (own4 sz ni jr) = (List.range g).flatMap (own4 sz ni jr) ++ own4 sz ni jr g := by
  rw [List.range_succ, List.flatMap_append, List.flatMap_cons, List.flatMap_nil, List.append_nil]
theorem upto_len (sz ni jr g : Nat) : ((List.range g).flatMap (own4 sz ni jr)).length = 4 * g := by
  induction g with
  | zero => rfl
  | succ g ih => rw [upto_grp, List.length_append, ih]; simp [own4]; omega



def loopsOf : Code → List Code
  | .loop c => [c]
  | .seq a b => loopsOf a ++ loopsOf b
  | .block _ c => loopsOf c
  | .scope c => loopsOf c
  | .cond _ a b => loopsOf a ++ loopsOf b
  | _ => []
noncomputable def body2 : Code := (((Tryd.f56.body.map loopsOf).getD []).getD 1 .skip)
noncomputable def body3 : Code := ((loopsOf body2).getD 0 .skip)

/-- what a call of yield does, for whatever loop body -/
def Yields (F : Fence) (n l n₀ N : Nat) (J Jx : List Pt → World → Prop) : Prop :=
  ∀ pre (x : Pt) W vs, x.v = .agg vs → J pre W → pre.length < N → ∃ fn tmps assign body, (Instr.yield l #[.agg vs]).run Tryd.prog W = .ok (.round l fn tmps assign body) W ∧ RoundIn F (n - 1) Tryd.prog l fn tmps assign body W fun e W' =>
      (e = .returned (.bool true) ∧ J (pre ++ [x]) W' ∧ Below n₀ W W') ∨ (e = .returned (.bool false) ∧ Jx (pre ++ [x]) W')
/-- an element of the array of a group's own parts -/
theorem ix4_any (A A1 A2 B d p q g : Nat) (k : Nat) (hk : k < 4) : ∃ x : Pt, ∃ kd gp fr sz pl : Nat, ([⟨4, g, A, 1, 0⟩, ⟨5, g, A1, 1, 1⟩, ⟨6, g, A2, q, 2⟩, ⟨7, g, B, d, p⟩] : List Pt)[k]? = some x ∧ x.v = .agg #[.int .u8 (kd : Int), .int .i64 (gp : Int), .int .i64 (fr : Int), .int .i64 (sz : Int), .int .i64 (pl : Int)] ∧
    ∀ w, (Instr.index 124 (.agg #[.int .u8 4, .int .i64 (g : Int), .int .i64 (A : Int), .int .i64 1, .int .i64 0, .int .u8 5, .int .i64 (g : Int), .int .i64 (A1 : Int), .int .i64 1, .int .i64 1, .int .u8 6, .int .i64 (g : Int), .int .i64 (A2 : Int), .int .i64 (q : Int), .int .i64 2, .int .u8 7, .int .i64 (g : Int), .int .i64 (B : Int), .int .i64 (d : Int), .int .i64 (p : Int)]) (.int .i64 (k : Int))).run Tryd.prog w = .ok (.agg #[.int .u8 (kd : Int), .int .i64 (gp : Int), .int .i64 (fr : Int), .int .i64 (sz : Int), .int .i64 (pl : Int)]) w := by
  obtain rfl | rfl | rfl | rfl : k = 0 ∨ k = 1 ∨ k = 2 ∨ k = 3 := by omega
  · exact ⟨_, 4, g, A, 1, 0, rfl, rfl, fun w => ix4_0 _ _ _ _ _ _ _ _ _ _ _ _ _ _ _ _ _ _ _ _ w⟩
  · exact ⟨_, 5, g, A1, 1, 1, rfl, rfl, fun w => ix4_1 _ _ _ _ _ _ _ _ _ _ _ _ _ _ _ _ _ _ _ _ w⟩
  · exact ⟨_, 6, g, A2, q, 2, rfl, rfl, fun w => ix4_2 _ _ _ _ _ _ _ _ _ _ _ _ _ _ _ _ _ _ _ _ w⟩
  · exact ⟨_, 7, g, B, d, p, rfl, rfl, fun w => ix4_3 _ _ _ _ _ _ _ _ _ _ _ _ _ _ _ _ _ _ _ _ w⟩
theorem take_snoc_pt (l : List Pt) (k : Nat) (x : Pt) (h : l[k]? = some x) : l.take (k + 1) = l.take k ++ [x] := by
  rw [List.take_add_one, h]; rfl


def codesOf : Code → List Code
  | .loop c => codesOf c
  | .seq a b => codesOf a ++ codesOf b
  | .block _ c => codesOf c
  | .scope c => codesOf c
  | .cond _ a b => codesOf a ++ codesOf b
  | .region i o b => [.region i o b]
  | _ => []
noncomputable def reg11 : Code := ((codesOf body2).getD 3 .skip)
noncomputable def reg12 : Code := ((codesOf body2).getD 4 .skip)
theorem wpList_build49 {ops : Array Oper} {rest : List Oper} {o : Oper} {a : Act} {w : World} {Q : Exit → Act → World → Prop} (hg : o.guard = none) (parts : Array (Nat × Operand)) (ho : o.op = .build 124 parts)
    (p : Array (Nat × Value)) (hp : (parts.map fun (i, x) => (i, a.eval x)) = p) (X : Array Value) (hX : Tryd.prog.built 124 p.toList = some X) (h : ∀ Y, Hid (Y = X) → wpList Tryd.prog ops Q rest (a.put o.dst (.agg Y)) w) : wpList Tryd.prog ops Q (o :: rest) a w := by
  refine wpList_build hg _ parts ho ?_ ?_
  · rw [hp, hX]; rfl
  · rw [hp, hX]; exact h X (Lib.hid rfl)
theorem wpList_store49 {ops : Array Oper} {rest : List Oper} {o : Oper} {a : Act} {Q : Exit → Act → World → Prop} (hgd : o.guard = none) (x y : Operand) (ho : o.op = .store 124 x y) (w0 : World) (z X : Array Value)
    (hx : a.eval x = .pointer (some ⟨w0.heap.size, 0, none⟩)) (hy : a.eval y = .agg X) (hz : z.size = 20) (hs : X.size = 20) (h1 : X.all (·.oneCell') = true)
    (h : wpList Tryd.prog ops Q rest (a.put o.dst undef) (w0.alloc (.cells X 124))) : wpList Tryd.prog ops Q (o :: rest) a (w0.alloc (.cells z 124)) := by
  refine wpList_store_row hgd _ x y ho w0.heap.size X hx hy 124 z (heap_alloc_last w0 _) ?_ (hz.trans hs.symm) h1 ?_
  · rw [hs]; kernel_rfl
  · rw [World.setRow_alloc_new]; exact h
theorem wpList_load49 {ops : Array Oper} {rest : List Oper} {o : Oper} {a : Act} {Q : Exit → Act → World → Prop} (hgd : o.guard = none) (x : Operand) (ho : o.op = .load 124 x) (w0 : World) (X : Array Value)
    (hx : a.eval x = .pointer (some ⟨w0.heap.size, 0, none⟩)) (hs : X.size = 20)
    (h : wpList Tryd.prog ops Q rest (a.put o.dst (.agg X)) (w0.alloc (.cells X 124))) : wpList Tryd.prog ops Q (o :: rest) a (w0.alloc (.cells X 124)) :=
  wpList_load_row hgd _ x ho w0.heap.size hx 124 X (0, 0) _ (heap_alloc_last w0 _) Tryd.underlying124 rfl (by rw [hs]; kernel_rfl) h


set_option maxRecDepth 100000 in
set_option maxHeartbeats 1000000 in
theorem own_loop (F : Fence) (n : Nat) (hro : F.round = none) (hn : 1 ≤ n) (l n₀ N : Nat) (J Jx : List Pt → World → Prop) (HY : Hid (Yields F n l n₀ N J Jx)) (HJ : Hid (∀ s W o, J s W → J s (W.alloc o)))
    (base : List Pt) (A A1 A2 B d p q g : Nat) (W : World) (HN : Hid (n₀ ≤ W.heap.size)) (HL : Hid (base.length + 4 ≤ N)) (Q : Exit → Act → World → Prop) (X : Array Value) (HE : Hid (X = #[.int .u8 4, .int .i64 (g : Int), .int .i64 (A : Int), .int .i64 1, .int .i64 0, .int .u8 5, .int .i64 (g : Int), .int .i64 (A1 : Int), .int .i64 1, .int .i64 1, .int .u8 6, .int .i64 (g : Int), .int .i64 (A2 : Int), .int .i64 (q : Int), .int .i64 2, .int .u8 7, .int .i64 (g : Int), .int .i64 (B : Int), .int .i64 (d : Int), .int .i64 (p : Int)])) (c1 c2 c3 c4 c5 c6 c7 c8 c9 c10 c11 c12 c13 c14 c15 c16 c17 c18 c19 c20 c21 c22 c23 c24 c25 c26 c27 c28 c29 c30 c31 c32 c33 c34 c35 c36 c37 c38 c39 c40 c41 c42 c43 c44 c45 c46 c47 c48 c49 c50 c51 c52 c53 c54 c55 c56 c57 c58 c59 c60 c61 c62 c63 c64 c65 c66 c67 c68 c71 c72 c73 c74 c75 c76 c77 c78 : Value)
    (HX : Hid (∀ u11 u70 u71 u72 u73 u74 u75 u76 u77 wz, J (base ++ ([⟨4, g, A, 1, 0⟩, ⟨5, g, A1, 1, 1⟩, ⟨6, g, A2, q, 2⟩, ⟨7, g, B, d, p⟩] : List Pt)) wz → Below n₀ W wz → Q (.exit 4) ⟨(.func (.yield l) #[] #[] :: c1 :: c2 :: c3 :: c4 :: c5 :: c6 :: c7 :: c8 :: c9 :: c10 :: u11 :: c12 :: c13 :: c14 :: c15 :: c16 :: c17 :: c18 :: c19 :: c20 :: c21 :: c22 :: c23 :: c24 :: c25 :: c26 :: c27 :: c28 :: c29 :: c30 :: c31 :: c32 :: c33 :: c34 :: c35 :: c36 :: c37 :: c38 :: c39 :: c40 :: c41 :: c42 :: c43 :: c44 :: c45 :: c46 :: c47 :: c48 :: c49 :: c50 :: c51 :: c52 :: c53 :: c54 :: c55 :: c56 :: c57 :: c58 :: c59 :: c60 :: c61 :: c62 :: c63 :: c64 :: c65 :: c66 :: c67 :: c68 :: (.agg X) :: u70 :: u71 :: u72 :: u73 :: u74 :: u75 :: u76 :: u77 :: c78 :: []).toArray, []⟩ wz))
    (HR : Hid (∀ (tz : Array Value) wz k, 0 < k → k ≤ 4 → Jx (base ++ ([⟨4, g, A, 1, 0⟩, ⟨5, g, A1, 1, 1⟩, ⟨6, g, A2, q, 2⟩, ⟨7, g, B, d, p⟩] : List Pt).take k) wz → Q .ret ⟨tz, []⟩ wz)) (w0 : World) (HB : Hid (Below n₀ W w0)) (HS : Hid (J base w0)) :
    (Code.loop body3).wpIn F n Tryd.prog Q ⟨(.func (.yield l) #[] #[] :: c1 :: c2 :: c3 :: c4 :: c5 :: c6 :: c7 :: c8 :: c9 :: c10 :: c11 :: c12 :: c13 :: c14 :: c15 :: c16 :: c17 :: c18 :: c19 :: c20 :: c21 :: c22 :: c23 :: c24 :: c25 :: c26 :: c27 :: c28 :: c29 :: c30 :: c31 :: c32 :: c33 :: c34 :: c35 :: c36 :: c37 :: c38 :: c39 :: c40 :: c41 :: c42 :: c43 :: c44 :: c45 :: c46 :: c47 :: c48 :: c49 :: c50 :: c51 :: c52 :: c53 :: c54 :: c55 :: c56 :: c57 :: c58 :: c59 :: c60 :: c61 :: c62 :: c63 :: c64 :: c65 :: c66 :: c67 :: c68 :: (.agg X) :: .int .i64 0 :: c71 :: c72 :: c73 :: c74 :: c75 :: c76 :: c77 :: c78 :: []).toArray, []⟩ w0 := by
  conv => arg 4; arg 1; whnf
  gi_loopw [70] (fun i wr => ∃ k : Nat, k ≤ 4 ∧ i = .int .i64 (k : Int) ∧ Below n₀ W wr ∧ J (base ++ ([⟨4, g, A, 1, 0⟩, ⟨5, g, A1, 1, 1⟩, ⟨6, g, A2, q, 2⟩, ⟨7, g, B, d, p⟩] : List Pt).take k) wr) (fun i _ => 4 - (intOf i).toNat)
  case atStart => exact ⟨0, by omega, rfl, HB.out, by simpa using HS.out⟩
  case round =>
    obtain ⟨k, hk, rfl, hB, hJs⟩ := hrel
    clear HB HS
    have HB := Lib.hid hB
    have HS := Lib.hid hJs
    clear hB hJs
    by_cases hlt : k < 4
    · obtain ⟨x, kd, gp, fr, sz, pl, hx, hv, hix⟩ := ix4_any A A1 A2 B d p q g k hlt
      rw [← HE.out] at hix
      have HV := Lib.hid hv
      have HT := Lib.hid (take_snoc_pt _ _ _ hx)
      clear hv hx
      obtain ⟨fn, tmps, assign, body, hy, hR⟩ := HY.out (base ++ ([⟨4, g, A, 1, 0⟩, ⟨5, g, A1, 1, 1⟩, ⟨6, g, A2, q, 2⟩, ⟨7, g, B, d, p⟩] : List Pt).take k) x (wr.alloc (.cells #[.int .u8 (kd : Int), .int .i64 (gp : Int), .int .i64 (fr : Int), .int .i64 (sz : Int), .int .i64 (pl : Int)] 98)) _ HV.out (HJ.out _ _ _ HS.out) (by have := HL.out; simp only [List.length_append, List.length_take]; omega)
      rw [List.append_assoc, ← HT.out] at hR
      gi_wp2
      refine hR.mono ?_
      clear hR hy hix
      rintro e W3 (⟨rfl, hJ3, hk3⟩ | ⟨rfl, hJx3⟩)
      · gi_wp2
        go_roundw
        case rel => exact ⟨k + 1, by omega, by go_num, (HB.out.alloc (Nat.le_trans HN.out HB.out.size) _).trans hk3, hJ3⟩
        case measure => simp [intOf]; omega
      · gi_wp2
        exact HR.out _ _ (k + 1) (by omega) (by omega) hJx3
    · obtain rfl : k = 4 := by omega
      gi_wp2
      exact HX.out _ _ _ _ _ _ _ _ _ _ HS.out HB.out
#print axioms own_loop


theorem grp_facts (gr sz ni jr q g : Nat) (hM : May gr sz ni jr) (hq : q = ni / 4) (hlt : g < gr) : ∃ s A A1 A2 B d p : Nat,
    (g : Int) * (sz : Int) = (s : Int) ∧ IntKind.i64.wrap (2 + (jr : Int)) = 2 + (jr : Int) ∧ IntKind.i64.wrap (s : Int) = (s : Int) ∧ IntKind.i64.wrap (2 + (jr : Int) + (s : Int)) = (A : Int) ∧
    IntKind.i64.wrap ((A : Int) + 1) = (A1 : Int) ∧ IntKind.i64.wrap ((A : Int) + 2) = (A2 : Int) ∧ IntKind.i64.wrap ((A2 : Int) + (q : Int)) = (B : Int) ∧ IntKind.i64.wrap ((sz : Int) - 2) = (sz : Int) - 2 ∧
    IntKind.i64.wrap ((sz : Int) - 2 - (q : Int)) = (d : Int) ∧ IntKind.i64.wrap (2 + (q : Int)) = (p : Int) ∧ IntKind.i64.wrap ((g : Int) + 1) = ((g + 1 : Nat) : Int) ∧
    own4 sz ni jr g = [⟨4, g, A, 1, 0⟩, ⟨5, g, A1, 1, 1⟩, ⟨6, g, A2, q, 2⟩, ⟨7, g, B, d, p⟩] := by
  obtain ⟨g1, g2, g3, g4, g5, g6, g7, g8, g9, g10, g11⟩ := hM
  have hsz : (sz : Int) ≤ 512 := g4
  have hgs : g * sz ≤ 4 * 512 := Nat.mul_le_mul (by omega) (by omega)
  refine ⟨g * sz, 2 + jr + g * sz, 2 + jr + g * sz + 1, 2 + jr + g * sz + 2, 2 + jr + g * sz + 2 + q, sz - 2 - q, 2 + q, by simp, IntWalk.i64_in _ (by omega), ?_, ?_, ?_, ?_, ?_, IntWalk.i64_in _ (by omega), ?_, ?_, ?_, ?_⟩
  · exact IntWalk.i64_in _ (by omega)
  · generalize g * sz = s at *; rw [IntWalk.i64_in _ (by omega)]; omega
  · generalize g * sz = s at *; rw [IntWalk.i64_in _ (by omega)]; omega
  · generalize g * sz = s at *; rw [IntWalk.i64_in _ (by omega)]; omega
  · generalize g * sz = s at *; rw [IntWalk.i64_in _ (by omega)]; omega
  · rw [IntWalk.i64_in _ (by omega)]; omega
  · rw [IntWalk.i64_in _ (by omega)]; omega
  · rw [IntWalk.i64_in _ (by omega)]; omega
  · unfold own4; rw [← hq]



set_option maxRecDepth 100000 in
set_option maxHeartbeats 2000000 in
theorem reg11_wp (Bn q g A A1 A2 B d p sz : Nat) (w0 : World) (h1 : w0.cell? ⟨Bn, 1, none⟩ = some (.int .i64 (sz : Int)))
    (f4 : IntKind.i64.wrap ((A : Int) + 1) = (A1 : Int)) (f5 : IntKind.i64.wrap ((A : Int) + 2) = (A2 : Int)) (f6 : IntKind.i64.wrap ((A2 : Int) + (q : Int)) = (B : Int)) (f7 : IntKind.i64.wrap ((sz : Int) - 2) = (sz : Int) - 2)
    (f8 : IntKind.i64.wrap ((sz : Int) - 2 - (q : Int)) = (d : Int)) (f9 : IntKind.i64.wrap (2 + (q : Int)) = (p : Int)) (c0 c2 c4 c5 c6 c9 c10 c11 c12 c13 c14 c15 c16 c17 c18 c19 c20 c21 c22 c23 c24 c25 c26 c27 c28 c29 c30 c31 c32 c33 c34 c35 c36 c37 c38 c39 c40 c41 c42 c43 c44 c45 c46 c47 c48 c49 c50 c51 c52 c53 c54 c55 c56 c57 c58 c59 c60 c61 c62 c63 c64 c65 c66 c67 c68 c69 c70 c71 c72 c73 c74 c75 c76 c77 c78 : Value) (Q : Exit → Act → World → Prop)
    (HK : Hid (∀ X : Array Value, Hid (X = #[.int .u8 4, .int .i64 (g : Int), .int .i64 (A : Int), .int .i64 1, .int .i64 0, .int .u8 5, .int .i64 (g : Int), .int .i64 (A1 : Int), .int .i64 1, .int .i64 1, .int .u8 6, .int .i64 (g : Int), .int .i64 (A2 : Int), .int .i64 (q : Int), .int .i64 2, .int .u8 7, .int .i64 (g : Int), .int .i64 (B : Int), .int .i64 (d : Int), .int .i64 (p : Int)]) → ∀ u43 u44 u45 u46 u47 u48 u49 u50 u51 u52 u53 u54 u55 u56 u57 u58 u59 u60 u61 u62 u63 u64 u65 u66 u67 u68, Q .normal ⟨(c0 :: .pointer (some ⟨Bn, 0, none⟩) :: c2 :: .int .i64 (q : Int) :: c4 :: c5 :: c6 :: .int .i64 (g : Int) :: .int .i64 (A : Int) :: .pointer (some ⟨w0.heap.size, 0, none⟩) :: c10 :: c11 :: c12 :: c13 :: c14 :: c15 :: c16 :: c17 :: c18 :: c19 :: c20 :: c21 :: c22 :: c23 :: c24 :: c25 :: c26 :: c27 :: c28 :: c29 :: c30 :: c31 :: c32 :: c33 :: c34 :: c35 :: c36 :: c37 :: c38 :: c39 :: c40 :: c41 :: c42 :: u43 :: u44 :: u45 :: u46 :: u47 :: u48 :: u49 :: u50 :: u51 :: u52 :: u53 :: u54 :: u55 :: u56 :: u57 :: u58 :: u59 :: u60 :: u61 :: u62 :: u63 :: u64 :: u65 :: u66 :: u67 :: u68 :: c69 :: c70 :: c71 :: c72 :: c73 :: c74 :: c75 :: c76 :: c77 :: c78 :: []).toArray, []⟩ (w0.alloc (.cells X 124)))) : reg11.wp Tryd.prog Q ⟨(c0 :: .pointer (some ⟨Bn, 0, none⟩) :: c2 :: .int .i64 (q : Int) :: c4 :: c5 :: c6 :: .int .i64 (g : Int) :: .int .i64 (A : Int) :: c9 :: c10 :: c11 :: c12 :: c13 :: c14 :: c15 :: c16 :: c17 :: c18 :: c19 :: c20 :: c21 :: c22 :: c23 :: c24 :: c25 :: c26 :: c27 :: c28 :: c29 :: c30 :: c31 :: c32 :: c33 :: c34 :: c35 :: c36 :: c37 :: c38 :: c39 :: c40 :: c41 :: c42 :: c43 :: c44 :: c45 :: c46 :: c47 :: c48 :: c49 :: c50 :: c51 :: c52 :: c53 :: c54 :: c55 :: c56 :: c57 :: c58 :: c59 :: c60 :: c61 :: c62 :: c63 :: c64 :: c65 :: c66 :: c67 :: c68 :: c69 :: c70 :: c71 :: c72 :: c73 :: c74 :: c75 :: c76 :: c77 :: c78 :: []).toArray, []⟩ w0 := by
  conv => arg 2; whnf
  go_wp2_with (first | ((with_reducible refine wpList_build49 rfl _ rfl _ rfl (#[.int .u8 4, .int .i64 (g : Int), .int .i64 (A : Int), .int .i64 1, .int .i64 0, .int .u8 5, .int .i64 (g : Int), .int .i64 (A1 : Int), .int .i64 1, .int .i64 1, .int .u8 6, .int .i64 (g : Int), .int .i64 (A2 : Int), .int .i64 (q : Int), .int .i64 2, .int .u8 7, .int .i64 (g : Int), .int .i64 (B : Int), .int .i64 (d : Int), .int .i64 (p : Int)]) (by kernel_rfl) ?_); intro X HX; have HXs := Lib.hid (show X.size = 20 by rw [HX.out]; rfl); have HX1 := Lib.hid (show X.all (·.oneCell') = true by rw [HX.out]; simp [Value.oneCell'])) | (refine wpList_store49 rfl _ _ rfl w0 _ X rfl rfl rfl HXs.out HX1.out ?_))
  exact HK.out X HX _ _ _ _ _ _ _ _ _ _ _ _ _ _ _ _ _ _ _ _ _ _ _ _ _ _
#print axioms reg11_wp


set_option maxRecDepth 100000 in
set_option maxHeartbeats 2000000 in
theorem reg12_wp (w0 : World) (X : Array Value) (HS : Hid (X.size = 20)) (c0 c1 c2 c3 c4 c5 c6 c7 c8 c10 c11 c12 c13 c14 c15 c16 c17 c18 c19 c20 c21 c22 c23 c24 c25 c26 c27 c28 c29 c30 c31 c32 c33 c34 c35 c36 c37 c38 c39 c40 c41 c42 c43 c44 c45 c46 c47 c48 c49 c50 c51 c52 c53 c54 c55 c56 c57 c58 c59 c60 c61 c62 c63 c64 c65 c66 c67 c68 c69 c70 c71 c72 c73 c74 c75 c76 c77 c78 : Value) (Q : Exit → Act → World → Prop) (HK : Hid (Q .normal ⟨(c0 :: c1 :: c2 :: c3 :: c4 :: c5 :: c6 :: c7 :: c8 :: .pointer (some ⟨w0.heap.size, 0, none⟩) :: c10 :: c11 :: c12 :: c13 :: c14 :: c15 :: c16 :: c17 :: c18 :: c19 :: c20 :: c21 :: c22 :: c23 :: c24 :: c25 :: c26 :: c27 :: c28 :: c29 :: c30 :: c31 :: c32 :: c33 :: c34 :: c35 :: c36 :: c37 :: c38 :: c39 :: c40 :: c41 :: c42 :: c43 :: c44 :: c45 :: c46 :: c47 :: c48 :: c49 :: c50 :: c51 :: c52 :: c53 :: c54 :: c55 :: c56 :: c57 :: c58 :: c59 :: c60 :: c61 :: c62 :: c63 :: c64 :: c65 :: c66 :: c67 :: c68 :: (.agg X) :: .int .i64 0 :: c71 :: c72 :: c73 :: c74 :: c75 :: c76 :: c77 :: c78 :: []).toArray, []⟩ (w0.alloc (.cells X 124)))) : reg12.wp Tryd.prog Q ⟨(c0 :: c1 :: c2 :: c3 :: c4 :: c5 :: c6 :: c7 :: c8 :: .pointer (some ⟨w0.heap.size, 0, none⟩) :: c10 :: c11 :: c12 :: c13 :: c14 :: c15 :: c16 :: c17 :: c18 :: c19 :: c20 :: c21 :: c22 :: c23 :: c24 :: c25 :: c26 :: c27 :: c28 :: c29 :: c30 :: c31 :: c32 :: c33 :: c34 :: c35 :: c36 :: c37 :: c38 :: c39 :: c40 :: c41 :: c42 :: c43 :: c44 :: c45 :: c46 :: c47 :: c48 :: c49 :: c50 :: c51 :: c52 :: c53 :: c54 :: c55 :: c56 :: c57 :: c58 :: c59 :: c60 :: c61 :: c62 :: c63 :: c64 :: c65 :: c66 :: c67 :: c68 :: c69 :: c70 :: c71 :: c72 :: c73 :: c74 :: c75 :: c76 :: c77 :: c78 :: []).toArray, []⟩ (w0.alloc (.cells X 124)) := by
  conv => arg 2; whnf
  go_wp2_with (with_reducible refine wpList_load49 rfl _ rfl w0 X rfl HS.out ?_)
  exact HK.out
#print axioms reg12_wp


set_option maxRecDepth 100000 in
set_option maxHeartbeats 2000000 in
theorem grp_loop (n : Nat) (hro : Fence.wide.round = none) (hn : 1 ≤ n) (l n₀ Bn gr sz ni jr q : Nat) (HM : Hid (May gr sz ni jr)) (HQ : Hid (q = ni / 4)) (hBn : Bn < n₀) (J Jx : List Pt → World → Prop) (HY : Hid (Yields Fence.wide n l n₀ (3 + 4 * gr) J Jx)) (HJ : Hid (∀ s W o, J s W → J s (W.alloc o)))
    (W : World) (HN : Hid (n₀ ≤ W.heap.size)) (HC : Hid (GAt W Bn gr sz ni jr)) (Q : Exit → Act → World → Prop) (c2 c4 c5 c6 c7 c8 c9 c10 c11 c12 c13 c14 c15 c16 c17 c18 c19 c20 c21 c22 c23 c24 c25 c26 c27 c28 c29 c30 c33 c34 c35 c36 c37 c38 c39 c40 c41 c42 c43 c44 c45 c46 c47 c48 c49 c50 c51 c52 c53 c54 c55 c56 c57 c58 c59 c60 c61 c62 c63 c64 c65 c66 c67 c68 c69 c70 c71 c72 c73 c74 c75 c76 c77 c78 : Value)
    (HX : Hid (∀ u7 u8 u9 u11 u32 u33 u34 u35 u36 u37 u38 u39 u40 u41 u42 u43 u44 u45 u46 u47 u48 u49 u50 u51 u52 u53 u54 u55 u56 u57 u58 u59 u60 u61 u62 u63 u64 u65 u66 u67 u68 u69 u70 u71 u72 u73 u74 u75 u76 u77 u78 wz, J (partsOf gr sz ni jr) wz → Q (.exit 2) ⟨(.func (.yield l) #[] #[] :: .pointer (some ⟨Bn, 0, none⟩) :: c2 :: .int .i64 (q : Int) :: c4 :: c5 :: c6 :: u7 :: u8 :: u9 :: c10 :: u11 :: c12 :: c13 :: c14 :: c15 :: c16 :: c17 :: c18 :: c19 :: c20 :: c21 :: c22 :: c23 :: c24 :: c25 :: c26 :: c27 :: c28 :: c29 :: c30 :: .int .i64 (gr : Int) :: u32 :: u33 :: u34 :: u35 :: u36 :: u37 :: u38 :: u39 :: u40 :: u41 :: u42 :: u43 :: u44 :: u45 :: u46 :: u47 :: u48 :: u49 :: u50 :: u51 :: u52 :: u53 :: u54 :: u55 :: u56 :: u57 :: u58 :: u59 :: u60 :: u61 :: u62 :: u63 :: u64 :: u65 :: u66 :: u67 :: u68 :: u69 :: u70 :: u71 :: u72 :: u73 :: u74 :: u75 :: u76 :: u77 :: u78 :: []).toArray, []⟩ wz))
    (HR : Hid (∀ (tz : Array Value) wz pre, pre <+: partsOf gr sz ni jr → Jx pre wz → Q .ret ⟨tz, []⟩ wz)) (w0 : World) (HB : Hid (Below n₀ W w0)) (HS : Hid (J (hd3 jr) w0)) :
    (Code.loop body2).wpIn Fence.wide n Tryd.prog Q ⟨(.func (.yield l) #[] #[] :: .pointer (some ⟨Bn, 0, none⟩) :: c2 :: .int .i64 (q : Int) :: c4 :: c5 :: c6 :: c7 :: c8 :: c9 :: c10 :: c11 :: c12 :: c13 :: c14 :: c15 :: c16 :: c17 :: c18 :: c19 :: c20 :: c21 :: c22 :: c23 :: c24 :: c25 :: c26 :: c27 :: c28 :: c29 :: c30 :: .int .i64 (gr : Int) :: .int .i64 0 :: c33 :: c34 :: c35 :: c36 :: c37 :: c38 :: c39 :: c40 :: c41 :: c42 :: c43 :: c44 :: c45 :: c46 :: c47 :: c48 :: c49 :: c50 :: c51 :: c52 :: c53 :: c54 :: c55 :: c56 :: c57 :: c58 :: c59 :: c60 :: c61 :: c62 :: c63 :: c64 :: c65 :: c66 :: c67 :: c68 :: c69 :: c70 :: c71 :: c72 :: c73 :: c74 :: c75 :: c76 :: c77 :: c78 :: []).toArray, []⟩ w0 := by
  conv => arg 4; arg 1; whnf
  gi_loopw [32] (fun i wr => ∃ g : Nat, g ≤ gr ∧ i = .int .i64 (g : Int) ∧ Below n₀ W wr ∧ J (hd3 jr ++ (List.range g).flatMap (own4 sz ni jr)) wr) (fun i _ => gr - (intOf i).toNat)
  case atStart => exact ⟨0, Nat.zero_le _, rfl, HB.out, by simpa using HS.out⟩
  case round =>
    obtain ⟨g, hg, rfl, hB, hJs⟩ := hrel
    clear HB HS
    have HB := Lib.hid hB
    have HS := Lib.hid hJs
    clear hB hJs
    by_cases hlt : g < gr
    · obtain ⟨c0, c1, c2, c3⟩ := HC.out.below HB.out hBn
      obtain ⟨s, A, A1, A2, B, d, p, hgi, f1, f2, f3, f4, f5, f6, f7, f8, f9, f10, hO⟩ := grp_facts gr sz ni jr q g HM.out HQ.out hlt
      have HO := Lib.hid hO
      have HF := Lib.hid f10
      clear hO f10
      gi_upto_region 11 with (fail)
      refine wpIn_wide.2 (reg11_wp Bn q g A A1 A2 B d p sz wr c1 f4 f5 f6 f7 f8 f9 _ _ _ _ _ _ _ _ _ _ _ _ _ _ _ _ _ _ _ _ _ _ _ _ _ _ _ _ _ _ _ _ _ _ _ _ _ _ _ _ _ _ _ _ _ _ _ _ _ _ _ _ _ _ _ _ _ _ _ _ _ _ _ _ _ _ _ _ _ _ _ _ _ _ _ _ (Lib.hid ?_))
      clear c0 c1 c2 c3 f1 f2 f3 f4 f5 f6 f7 f8 f9 hgi
      intro X HX x43 x44 x45 x46 x47 x48 x49 x50 x51 x52 x53 x54 x55 x56 x57 x58 x59 x60 x61 x62 x63 x64 x65 x66 x67 x68
      have HXs := Lib.hid (show X.size = 20 by rw [HX.out]; rfl)
      gi_upto_region 12 with (fail)
      refine wpIn_wide.2 (reg12_wp wr X HXs _ _ _ _ _ _ _ _ _ _ _ _ _ _ _ _ _ _ _ _ _ _ _ _ _ _ _ _ _ _ _ _ _ _ _ _ _ _ _ _ _ _ _ _ _ _ _ _ _ _ _ _ _ _ _ _ _ _ _ _ _ _ _ _ _ _ _ _ _ _ _ _ _ _ _ _ _ _ _ (Lib.hid ?_))
      gi_wp2
      refine own_loop Fence.wide n hro hn l n₀ (3 + 4 * gr) J Jx HY HJ (hd3 jr ++ (List.range g).flatMap (own4 sz ni jr)) A A1 A2 B d p q g W HN (Lib.hid ?hl) _ X HX _ _ _ _ _ _ _ _ _ _ _ _ _ _ _ _ _ _ _ _ _ _ _ _ _ _ _ _ _ _ _ _ _ _ _ _ _ _ _ _ _ _ _ _ _ _ _ _ _ _ _ _ _ _ _ _ _ _ _ _ _ _ _ _ _ _ _ _ _ _ _ _ _ _ _ _ (Lib.hid ?hx) (Lib.hid ?hr) _ (Lib.hid (HB.out.alloc (Nat.le_trans HN.out HB.out.size) _)) (Lib.hid (HJ.out _ _ _ HS.out))
      case hl => rw [List.length_append, upto_len]; simp [hd3]; omega
      case hr =>
        intro az wz k _ _ hx
        rw [← HO.out] at hx
        exact HR.out _ _ _ (parts_grp gr sz ni jr g hlt _ (List.take_prefix _ _)) hx
      case hx =>
        intro v11 v70 v71 v72 v73 v74 v75 v76 v77 wz hJ4 hB4
        rw [← HO.out] at hJ4
        have hff := HF.out
        gi_wp2
        clear hff
        go_roundw
        case rel => exact ⟨g + 1, by omega, by go_num, hB4, by rw [upto_grp, ← List.append_assoc]; exact hJ4⟩
        case measure => simp [intOf]; omega
    · obtain rfl : g = gr := by omega
      gi_wp2
      exact HX.out _ _ _ _ _ _ _ _ _ _ _ _ _ _ _ _ _ _ _ _ _ _ _ _ _ _ _ _ _ _ _ _ _ _ _ _ _ _ _ _ _ _ _ _ _ _ _ _ _ _ _ _ HS.out
#print axioms grp_loop

set_option maxRecDepth 100000 in
set_option maxHeartbeats 4000000 in
theorem parts1_in (n : Nat) (hro : Fence.wide.round = none) (hn : 1 ≤ n) (l Bn n₀ gr sz ni jr : Nat) (hM : May gr sz ni jr) (hBn : Bn < n₀) (J Jx : List Pt → World → Prop)
    (hY : ∀ pre x W, J pre W → pre.length < 3 + 4 * gr → YieldAt Fence.wide (n - 1) Tryd.prog l #[x.v] W fun e W' =>
      (e = .returned (.bool true) ∧ J (pre ++ [x]) W' ∧ Below n₀ W W') ∨ (e = .returned (.bool false) ∧ Jx (pre ++ [x]) W'))
    (W : World) (hn₀ : n₀ ≤ W.heap.size) (hJ : AbidesFrom W.heap.size J) (hc : GAt W Bn gr sz ni jr) (h0 : J [] W) :
    CallsIn Fence.wide n Tryd.prog 56 #[.func (.yield l) #[] #[], .pointer (some ⟨Bn, 0, none⟩)] W fun e W' => (∃ v, e = .returned v) ∧
      ((∃ ys, ys = partsOf gr sz ni jr ∧ J ys W') ∨ (∃ pre, pre <+: partsOf gr sz ni jr ∧ Jx pre W')) := by
  have Y : Yields Fence.wide n l n₀ (3 + 4 * gr) J Jx := by
    intro pre x W vs e h1 h2
    have := hY pre x W h1 h2
    rw [e] at this
    exact this
  have HY := Lib.hid Y
  clear Y hY
  have JA : ∀ s W o, J s W → J s (W.alloc o) := fun s W o h => hJ s W _ none h (World.grownBy_alloc W o none) (by simp)
  have HJ := Lib.hid JA
  clear hJ JA
  have HC := Lib.hid hc
  obtain ⟨c0, c1, c2, c3⟩ := hc
  have HM := Lib.hid hM
  obtain ⟨g1, g2, g3, g4, g5, g6, g7, g8, g9, g10, g11⟩ := hM
  obtain ⟨q, hq⟩ : ∃ q : Nat, q = ni / 4 := ⟨_, rfl⟩
  have e0 : ((ni : Int)).tdiv 4 = (q : Int) := by rw [Int.tdiv_eq_ediv_of_nonneg (by omega)]; omega
  have e1 : IntKind.i64.wrap ((ni : Int).tdiv 4) = (q : Int) := by rw [e0]; exact IntWalk.i64_in _ (by omega)
  have e1' : IntKind.i64.wrap (q : Int) = (q : Int) := IntWalk.i64_in _ (by omega)
  have HQ := Lib.hid hq
  have H0 := Lib.hid h0
  have HN := Lib.hid hn₀
  clear hq h0 hn₀ g1 g2 g3 g4 g5 g6 g7 g8 g9 g10 g11
  refine callsIn_of_wp Tryd.func56 rfl trivial ?_ hro
  simp only [Tryd.ntmps56, List.size_toArray, List.length_cons, List.length_nil, Nat.reduceAdd, Nat.reduceSub, Array.replicate_succ, Array.replicate_zero, List.push_toArray, List.append_toArray, List.nil_append, List.cons_append]
  gi_wp2
  clear c0 c1 c2 c3
  gi_loopw [22] (fun i wr => Below n₀ W wr ∧ ((i = .int .i64 0 ∧ J [] wr) ∨ (i = .int .i64 1 ∧ J ((hd3 jr).take 1) wr) ∨ (i = .int .i64 2 ∧ J ((hd3 jr).take 2) wr) ∨ (i = .int .i64 3 ∧ J (hd3 jr) wr)))
    (fun i _ => 3 - (intOf i).toNat)
  case atStart => exact ⟨(Below.refl _ _).alloc HN.out _, .inl ⟨rfl, HJ.out _ _ _ H0.out⟩⟩
  case round =>
    obtain ⟨hB, ⟨rfl, hJs⟩ | ⟨rfl, hJs⟩ | ⟨rfl, hJs⟩ | ⟨rfl, hJs⟩⟩ := hrel
    all_goals have HB := Lib.hid hB
    all_goals have HS := Lib.hid hJs
    all_goals clear hB hJs
    · as_aux_lemma =>
        obtain ⟨fn, tmps, assign, body, hy, hR⟩ := HY.out [] ⟨1, 0, 0, 1, 0⟩ (wr.alloc (.cells #[.int .u8 1, .int .i64 0, .int .i64 0, .int .i64 1, .int .i64 0] 98)) #[.int .u8 1, .int .i64 0, .int .i64 0, .int .i64 1, .int .i64 0] rfl (HJ.out _ _ _ HS.out) (by simp [hd3]; try omega)
        gi_wp2
        refine hR.mono ?_
        rintro e W3 (⟨rfl, hJ3, hk3⟩ | ⟨rfl, hJx3⟩)
        · gi_wp2
          go_roundw
          case rel => exact ⟨(HB.out.alloc (Nat.le_trans HN.out HB.out.size) _).trans hk3, .inr (.inl ⟨rfl, hJ3⟩)⟩
          case measure => simp [intOf]
        · gi_wp2
          refine bodyPost_ret (results_none rfl _ _ _) rfl ?_
          exact ⟨⟨_, rfl⟩, .inr ⟨_, ⟨(hd3 jr).drop 1 ++ (List.range gr).flatMap (own4 sz ni jr), rfl⟩, hJx3⟩⟩
    · as_aux_lemma =>
        obtain ⟨fn, tmps, assign, body, hy, hR⟩ := HY.out ((hd3 jr).take 1) ⟨2, 0, 1, 1, 0⟩ (wr.alloc (.cells #[.int .u8 2, .int .i64 0, .int .i64 1, .int .i64 1, .int .i64 0] 98)) #[.int .u8 2, .int .i64 0, .int .i64 1, .int .i64 1, .int .i64 0] rfl (HJ.out _ _ _ HS.out) (by simp [hd3]; try omega)
        gi_wp2
        refine hR.mono ?_
        rintro e W3 (⟨rfl, hJ3, hk3⟩ | ⟨rfl, hJx3⟩)
        · gi_wp2
          go_roundw
          case rel => exact ⟨(HB.out.alloc (Nat.le_trans HN.out HB.out.size) _).trans hk3, .inr (.inr (.inl ⟨rfl, hJ3⟩))⟩
          case measure => simp [intOf]
        · gi_wp2
          refine bodyPost_ret (results_none rfl _ _ _) rfl ?_
          exact ⟨⟨_, rfl⟩, .inr ⟨_, ⟨(hd3 jr).drop 2 ++ (List.range gr).flatMap (own4 sz ni jr), rfl⟩, hJx3⟩⟩
    · as_aux_lemma =>
        obtain ⟨fn, tmps, assign, body, hy, hR⟩ := HY.out ((hd3 jr).take 2) ⟨3, 0, 2, jr, 0⟩ (wr.alloc (.cells #[.int .u8 3, .int .i64 0, .int .i64 2, .int .i64 (jr : Int), .int .i64 0] 98)) #[.int .u8 3, .int .i64 0, .int .i64 2, .int .i64 (jr : Int), .int .i64 0] rfl (HJ.out _ _ _ HS.out) (by simp [hd3]; try omega)
        gi_wp2
        refine hR.mono ?_
        rintro e W3 (⟨rfl, hJ3, hk3⟩ | ⟨rfl, hJx3⟩)
        · gi_wp2
          go_roundw
          case rel => exact ⟨(HB.out.alloc (Nat.le_trans HN.out HB.out.size) _).trans hk3, .inr (.inr (.inr ⟨rfl, hJ3⟩))⟩
          case measure => simp [intOf]
        · gi_wp2
          refine bodyPost_ret (results_none rfl _ _ _) rfl ?_
          exact ⟨⟨_, rfl⟩, .inr ⟨_, ⟨(hd3 jr).drop 3 ++ (List.range gr).flatMap (own4 sz ni jr), rfl⟩, hJx3⟩⟩
    · obtain ⟨c0, c1, c2, c3⟩ := HC.out.below HB.out hBn
      gi_wp2
      clear c0 c1 c2 c3
      refine grp_loop n hro hn l n₀ Bn gr sz ni jr q HM HQ hBn J Jx HY HJ W HN HC _ _ _ _ _ _ _ _ _ _ _ _ _ _ _ _ _ _ _ _ _ _ _ _ _ _ _ _ _ _ _ _ _ _ _ _ _ _ _ _ _ _ _ _ _ _ _ _ _ _ _ _ _ _ _ _ _ _ _ _ _ _ _ _ _ _ _ _ _ _ _ _ _ _ _ (Lib.hid ?hx) (Lib.hid ?hr) _ HB HS
      case hr =>
        intro tz wz pre hp hx
        gi_wp2
        refine bodyPost_ret (results_none rfl _ _ _) rfl ?_
        exact ⟨⟨_, rfl⟩, .inr ⟨_, hp, hx⟩⟩
      case hx =>
        intro x7 x8 x9 x11 x32 x33 x34 x35 x36 x37 x38 x39 x40 x41 x42 x43 x44 x45 x46 x47 x48 x49 x50 x51 x52 x53 x54 x55 x56 x57 x58 x59 x60 x61 x62 x63 x64 x65 x66 x67 x68 x69 x70 x71 x72 x73 x74 x75 x76 x77 x78 wz hx
        gi_wp2
        go_end0
        exact ⟨⟨_, rfl⟩, .inl ⟨_, rfl, hx⟩⟩
#print axioms parts1_in

end Go.Proofs.YtieknecbheeekaaDoor.Geo
/- geo.parts, and what geo.What tells. -/
set_option linter.unusedVariables false
set_option linter.unusedSimpArgs false
namespace Go.Proofs.YtieknecbheeekaaDoor.Geo
open Go.RowKit Go.Shelf
attribute [local go_sem] Oper.semAt_some

set_option maxHeartbeats 1000000 in
theorem parts_in (n : Nat) (gr sz ni jr : Int) (w : World) :
    CallsIn Fence.wide n Tryd.prog 42 #[gv gr sz ni jr] w fun e w' => e = .returned (.func (.func 56) #[] #[.pointer (some ⟨w.heap.size, 0, none⟩)]) ∧ w' = w.alloc (gbox gr sz ni jr) := by
  refine callsIn_of_wp Tryd.func42 rfl trivial ?_ rfl
  simp only [Tryd.ntmps42, List.size_toArray, List.length_cons, List.length_nil, Nat.reduceAdd, Nat.reduceSub, Array.replicate_succ, Array.replicate_zero, List.push_toArray, List.append_toArray, List.nil_append, List.cons_append]
  gi_wp2
  go_ret
  exact ⟨rfl, rfl⟩

theorem parts_stops (n : Nat) (hn : 1 ≤ n) (Bn n₀ gr sz ni jr : Nat) (hM : May gr sz ni jr) (w : World) (hB : Bn < n₀) (hn₀ : n₀ ≤ w.heap.size) (hc : GAt w Bn gr sz ni jr) :
    SeqStopsK Fence.wide n Tryd.prog 56 #[.pointer (some ⟨Bn, 0, none⟩)] (fun x : Pt => #[x.v]) (Below n₀) (fun ys => ys = partsOf gr sz ni jr) (fun pre => pre <+: partsOf gr sz ni jr) (3 + 4 * gr) w :=
  fun l J Jx W hW hJ _ hY h0 => parts1_in n rfl hn l Bn n₀ gr sz ni jr hM hB J Jx hY W (Nat.le_trans hn₀ hW.size) hJ (hc.below hW (Nat.lt_of_lt_of_le hB hn₀)) h0
-- REG6
def codesIn : Code → List Code
  | .loop c => codesIn c
  | .seq a b => codesIn a ++ codesIn b
  | .block _ c => codesIn c
  | .scope c => codesIn c
  | .cond _ a b => codesIn a ++ codesIn b
  | .rangeFunc _ _ a b => codesIn a ++ codesIn b
  | .region i o b => [.region i o b]
  | _ => []
noncomputable def whatReg6 : Code := ((codesIn (Tryd.f22.body.getD .skip)).getD 6 .skip)
set_option maxRecDepth 100000 in
set_option maxHeartbeats 2000000 in
theorem reg6_in (l n Bx Bb B4 B5 B6 n₀ kd gp fr pl : Nat) (bl S1 S2 : Int) (T : Nat → Option Value) (W : World)
    (x0 : W.cell? ⟨Bx, 0, none⟩ = some (.int .u8 (kd : Int))) (x1 : W.cell? ⟨Bx, 1, none⟩ = some (.int .i64 (gp : Int))) (x2 : W.cell? ⟨Bx, 2, none⟩ = some (.int .i64 (fr : Int))) (x4 : W.cell? ⟨Bx, 4, none⟩ = some (.int .i64 (pl : Int)))
    (xb : W.cell? ⟨Bb, 0, none⟩ = some (.int .i64 bl)) (tx : T Bx = none) (tb : T Bb = none) (t4 : T B4 = some (.int .u8 (kd : Int))) (t5 : T B5 = some (.int .i64 (gp : Int))) (t6 : T B6 = some (.int .i64 S2))
    (n4 : n₀ ≤ B4) (n5 : n₀ ≤ B5) (n6 : n₀ ≤ B6) (s4 : (W.cell? ⟨B4, 0, none⟩).isSome = true) (s5 : (W.cell? ⟨B5, 0, none⟩).isSome = true) (s6 : (W.cell? ⟨B6, 0, none⟩).isSome = true)
    (z4 : W.frozen? ⟨B4, 0, none⟩ = false) (z5 : W.frozen? ⟨B5, 0, none⟩ = false) (z6 : W.frozen? ⟨B6, 0, none⟩ = false)
    (e1 : IntKind.i64.wrap ((pl : Int) + bl) = S1) (e2 : IntKind.i64.wrap (S1 - (fr : Int)) = S2) (c0 c1 c2 c8 c9 c10 c11 c12 c13 c14 c15 c16 c17 c18 c19 c20 c21 c22 c23 c24 c25 c26 c27 c28 c29 c30 c31 c32 c33 c34 c35 : Value) (Q : Exit → Act → World → Prop)
    (HK : Hid (∀ u25 u26 u27 u28 u29 u30 u31 u32 u33 u34 u35 wz, WR n₀ T W wz → wz.cell? ⟨B4, 0, none⟩ = some (.int .u8 (kd : Int)) → wz.cell? ⟨B5, 0, none⟩ = some (.int .i64 (gp : Int)) → wz.cell? ⟨B6, 0, none⟩ = some (.int .i64 S2) → Q .normal ⟨(c0 :: c1 :: c2 :: .pointer (some ⟨Bb, 0, none⟩) :: .pointer (some ⟨B4, 0, none⟩) :: .pointer (some ⟨B5, 0, none⟩) :: .pointer (some ⟨B6, 0, none⟩) :: .pointer (some ⟨Bx, 0, none⟩) :: c8 :: c9 :: c10 :: c11 :: c12 :: c13 :: c14 :: c15 :: c16 :: c17 :: c18 :: c19 :: c20 :: c21 :: c22 :: c23 :: c24 :: u25 :: u26 :: u27 :: u28 :: u29 :: u30 :: u31 :: u32 :: u33 :: u34 :: u35 :: []).toArray, []⟩ wz)) :
    whatReg6.wpIn (Fence.wide.inRound l) n Tryd.prog Q ⟨(c0 :: c1 :: c2 :: .pointer (some ⟨Bb, 0, none⟩) :: .pointer (some ⟨B4, 0, none⟩) :: .pointer (some ⟨B5, 0, none⟩) :: .pointer (some ⟨B6, 0, none⟩) :: .pointer (some ⟨Bx, 0, none⟩) :: c8 :: c9 :: c10 :: c11 :: c12 :: c13 :: c14 :: c15 :: c16 :: c17 :: c18 :: c19 :: c20 :: c21 :: c22 :: c23 :: c24 :: c25 :: c26 :: c27 :: c28 :: c29 :: c30 :: c31 :: c32 :: c33 :: c34 :: c35 :: []).toArray, []⟩ W := by
  have Hx0 := Lib.hid x0
  have Hx1 := Lib.hid x1
  have Hx2 := Lib.hid x2
  have Hx4 := Lib.hid x4
  have Hxb := Lib.hid xb
  have Htx := Lib.hid tx
  have Htb := Lib.hid tb
  have Ht4 := Lib.hid t4
  have Ht5 := Lib.hid t5
  have Ht6 := Lib.hid t6
  have Hs4 := Lib.hid s4
  have Hs5 := Lib.hid s5
  have Hs6 := Lib.hid s6
  have Hz4 := Lib.hid z4
  have Hz5 := Lib.hid z5
  have Hz6 := Lib.hid z6
  have He1 := Lib.hid e1
  have He2 := Lib.hid e2
  clear x0 x1 x2 x4 xb tx tb t4 t5 t6 s4 s5 s6 z4 z5 z6 e1 e2
  conv => arg 4; whnf
  have hQ : ¬ LetsOut (fun e a w => e = Exit.normal ∧ Q .normal a w) := fun ⟨_, _, h, _⟩ => by cases h
  refine wpIn_mono (Q := fun e a w => e = Exit.normal ∧ Q .normal a w) ?_ (fun e a w h => by obtain ⟨rfl, h⟩ := h; exact h)
  refine round_region_facts l n hQ (by kernel_rfl) (by kernel_rfl) [[], [(0, some 25)], [], [(2, some 27)], [], [(4, some 29)], [], [(5, some 30), (6, some 31)], [], [(8, some 33)], [(7, some 32), (9, some 34)], [(0, some 25), (1, some 26)], [(0, some 25), (1, some 26), (2, some 27), (3, some 28), (11, none)], [(0, some 25), (1, some 26), (2, some 27), (3, some 28), (4, some 29), (5, some 30), (6, some 31), (7, some 32), (8, some 33), (9, some 34), (10, some 35), (11, none), (12, none)]] [(0, some 25), (1, some 26), (2, some 27), (3, some 28), (4, some 29), (5, some 30), (6, some 31), (7, some 32), (8, some 33), (9, some 34), (10, some 35), (11, none), (12, none), (13, none)] (by kernel_rfl) (by kernel_rfl) (by kernel_rfl) (WR n₀ T) (WR.refl n₀ T) (fun _ _ _ h h' => WR.trans h h') [Is (Value.pointer (some ⟨Bx, 0, none⟩)), Is (Value.int .u8 (kd : Int)), Is (Value.pointer (some ⟨Bx, 1, none⟩)), Is (Value.int .i64 (gp : Int)), Is (Value.pointer (some ⟨Bx, 4, none⟩)), Is (Value.int .i64 (pl : Int)), Is (Value.int .i64 bl), Is (Value.int .i64 S1), Is (Value.pointer (some ⟨Bx, 2, none⟩)), Is (Value.int .i64 (fr : Int)), Is (Value.int .i64 S2), CellIs B4 (Value.int .u8 (kd : Int)), CellIs B5 (Value.int .i64 (gp : Int)), CellIs B6 (Value.int .i64 S2)] rfl ⟨is_stab _ _, is_stab _ _, is_stab _ _, is_stab _ _, is_stab _ _, is_stab _ _, is_stab _ _, is_stab _ _, is_stab _ _, is_stab _ _, is_stab _ _, cellIs_stab Ht4.out, cellIs_stab Ht5.out, cellIs_stab Ht6.out, trivial⟩ ⟨?o0, ?o1, ?o2, ?o3, ?o4, ?o5, ?o6, ?o7, ?o8, ?o9, ?o10, ?o11, ?o12, ?o13, trivial⟩ ?_
  case o0 =>
    intro vals wq hRq hpq
    simp only [List.getD_cons_zero, List.getD_cons_succ, canonP]
    simp only [Oper.gives]
    go_simp
    exact ⟨is_mk _ _, (WR.refl n₀ T) _⟩
  case o1 =>
    intro vals wq hRq hpq
    simp only [factsP, List.getD_cons_zero, List.getD_cons_succ] at hpq
    have f0 := hpq.1
    replace hpq := hpq.2
    clear hpq
    replace f0 : vals 0 = _ := f0
    simp only [List.getD_cons_zero, List.getD_cons_succ, canonP, f0]
    clear f0
    have hcc := (hRq.1 ⟨Bx, 0, none⟩ Htx.out).trans Hx0.out
    simp only [Oper.gives]
    go_simp
    exact ⟨is_mk _ _, WR.refl _ _ _⟩
  case o2 =>
    intro vals wq hRq hpq
    simp only [List.getD_cons_zero, List.getD_cons_succ, canonP]
    simp only [Oper.gives]
    go_simp
    exact ⟨is_mk _ _, (WR.refl n₀ T) _⟩
  case o3 =>
    intro vals wq hRq hpq
    simp only [factsP, List.getD_cons_zero, List.getD_cons_succ] at hpq
    have f2 := hpq.1
    replace hpq := hpq.2
    clear hpq
    replace f2 : vals 2 = _ := f2
    simp only [List.getD_cons_zero, List.getD_cons_succ, canonP, f2]
    clear f2
    have hcc := (hRq.1 ⟨Bx, 1, none⟩ Htx.out).trans Hx1.out
    simp only [Oper.gives]
    go_simp
    exact ⟨is_mk _ _, WR.refl _ _ _⟩
  case o4 =>
    intro vals wq hRq hpq
    simp only [List.getD_cons_zero, List.getD_cons_succ, canonP]
    simp only [Oper.gives]
    go_simp
    exact ⟨is_mk _ _, (WR.refl n₀ T) _⟩
  case o5 =>
    intro vals wq hRq hpq
    simp only [factsP, List.getD_cons_zero, List.getD_cons_succ] at hpq
    have f4 := hpq.1
    replace hpq := hpq.2
    clear hpq
    replace f4 : vals 4 = _ := f4
    simp only [List.getD_cons_zero, List.getD_cons_succ, canonP, f4]
    clear f4
    have hcc := (hRq.1 ⟨Bx, 4, none⟩ Htx.out).trans Hx4.out
    simp only [Oper.gives]
    go_simp
    exact ⟨is_mk _ _, WR.refl _ _ _⟩
  case o6 =>
    intro vals wq hRq hpq
    simp only [List.getD_cons_zero, List.getD_cons_succ, canonP]
    have hcc := (hRq.1 ⟨Bb, 0, none⟩ Htb.out).trans Hxb.out
    simp only [Oper.gives]
    go_simp
    exact ⟨is_mk _ _, WR.refl _ _ _⟩
  case o7 =>
    intro vals wq hRq hpq
    simp only [factsP, List.getD_cons_zero, List.getD_cons_succ] at hpq
    have f5 := hpq.1
    replace hpq := hpq.2
    have f6 := hpq.1
    replace hpq := hpq.2
    clear hpq
    replace f5 : vals 5 = _ := f5
    replace f6 : vals 6 = _ := f6
    simp only [List.getD_cons_zero, List.getD_cons_succ, canonP, f5, f6]
    clear f5 f6
    have e1 := He1.out
    simp only [Oper.gives]
    go_simp
    exact ⟨is_mk _ _, WR.refl _ _ _⟩
  case o8 =>
    intro vals wq hRq hpq
    simp only [List.getD_cons_zero, List.getD_cons_succ, canonP]
    simp only [Oper.gives]
    go_simp
    exact ⟨is_mk _ _, (WR.refl n₀ T) _⟩
  case o9 =>
    intro vals wq hRq hpq
    simp only [factsP, List.getD_cons_zero, List.getD_cons_succ] at hpq
    have f8 := hpq.1
    replace hpq := hpq.2
    clear hpq
    replace f8 : vals 8 = _ := f8
    simp only [List.getD_cons_zero, List.getD_cons_succ, canonP, f8]
    clear f8
    have hcc := (hRq.1 ⟨Bx, 2, none⟩ Htx.out).trans Hx2.out
    simp only [Oper.gives]
    go_simp
    exact ⟨is_mk _ _, WR.refl _ _ _⟩
  case o10 =>
    intro vals wq hRq hpq
    simp only [factsP, List.getD_cons_zero, List.getD_cons_succ] at hpq
    have f7 := hpq.1
    replace hpq := hpq.2
    have f9 := hpq.1
    replace hpq := hpq.2
    clear hpq
    replace f7 : vals 7 = _ := f7
    replace f9 : vals 9 = _ := f9
    simp only [List.getD_cons_zero, List.getD_cons_succ, canonP, f7, f9]
    clear f7 f9
    have e2 := He2.out
    simp only [Oper.gives]
    go_simp
    exact ⟨is_mk _ _, WR.refl _ _ _⟩
  case o11 =>
    intro vals wq hRq hpq
    simp only [factsP, List.getD_cons_zero, List.getD_cons_succ] at hpq
    have f0 := hpq.1
    replace hpq := hpq.2
    have f1 := hpq.1
    replace hpq := hpq.2
    clear hpq
    replace f0 : vals 0 = _ := f0
    replace f1 : vals 1 = _ := f1
    simp only [List.getD_cons_zero, List.getD_cons_succ, canonP, f0, f1]
    clear f0 f1
    have hvq : (wq.cell? ⟨B4, 0, none⟩).isSome = true := hRq.2.2.1 ⟨B4, 0, none⟩ Hs4.out
    have hfq : wq.frozen? ⟨B4, 0, none⟩ = false := (hRq.2.1 ⟨B4, 0, none⟩).trans Hz4.out
    simp only [Oper.gives]
    go_simp
    obtain ⟨vq, hv2⟩ := Option.isSome_iff_exists.1 hvq
    simp only [hv2, Result.andThen]
    exact ⟨cellIs_set hvq, WR.store wq Ht4.out n4⟩
  case o12 =>
    intro vals wq hRq hpq
    simp only [factsP, List.getD_cons_zero, List.getD_cons_succ] at hpq
    have f0 := hpq.1
    replace hpq := hpq.2
    have f1 := hpq.1
    replace hpq := hpq.2
    have f2 := hpq.1
    replace hpq := hpq.2
    have f3 := hpq.1
    replace hpq := hpq.2
    have f11 := hpq.1
    replace hpq := hpq.2
    clear hpq
    replace f0 : vals 0 = _ := f0
    replace f1 : vals 1 = _ := f1
    replace f2 : vals 2 = _ := f2
    replace f3 : vals 3 = _ := f3
    simp only [List.getD_cons_zero, List.getD_cons_succ, canonP, f0, f1, f2, f3]
    clear f0 f1 f2 f3
    have hvq : (wq.cell? ⟨B5, 0, none⟩).isSome = true := hRq.2.2.1 ⟨B5, 0, none⟩ Hs5.out
    have hfq : wq.frozen? ⟨B5, 0, none⟩ = false := (hRq.2.1 ⟨B5, 0, none⟩).trans Hz5.out
    simp only [Oper.gives]
    go_simp
    obtain ⟨vq, hv2⟩ := Option.isSome_iff_exists.1 hvq
    simp only [hv2, Result.andThen]
    exact ⟨cellIs_set hvq, WR.store wq Ht5.out n5⟩
  case o13 =>
    intro vals wq hRq hpq
    simp only [factsP, List.getD_cons_zero, List.getD_cons_succ] at hpq
    have f0 := hpq.1
    replace hpq := hpq.2
    have f1 := hpq.1
    replace hpq := hpq.2
    have f2 := hpq.1
    replace hpq := hpq.2
    have f3 := hpq.1
    replace hpq := hpq.2
    have f4 := hpq.1
    replace hpq := hpq.2
    have f5 := hpq.1
    replace hpq := hpq.2
    have f6 := hpq.1
    replace hpq := hpq.2
    have f7 := hpq.1
    replace hpq := hpq.2
    have f8 := hpq.1
    replace hpq := hpq.2
    have f9 := hpq.1
    replace hpq := hpq.2
    have f10 := hpq.1
    replace hpq := hpq.2
    have f11 := hpq.1
    replace hpq := hpq.2
    have f12 := hpq.1
    replace hpq := hpq.2
    clear hpq
    replace f0 : vals 0 = _ := f0
    replace f1 : vals 1 = _ := f1
    replace f2 : vals 2 = _ := f2
    replace f3 : vals 3 = _ := f3
    replace f4 : vals 4 = _ := f4
    replace f5 : vals 5 = _ := f5
    replace f6 : vals 6 = _ := f6
    replace f7 : vals 7 = _ := f7
    replace f8 : vals 8 = _ := f8
    replace f9 : vals 9 = _ := f9
    replace f10 : vals 10 = _ := f10
    simp only [List.getD_cons_zero, List.getD_cons_succ, canonP, f0, f1, f2, f3, f4, f5, f6, f7, f8, f9, f10]
    clear f0 f1 f2 f3 f4 f5 f6 f7 f8 f9 f10
    have hvq : (wq.cell? ⟨B6, 0, none⟩).isSome = true := hRq.2.2.1 ⟨B6, 0, none⟩ Hs6.out
    have hfq : wq.frozen? ⟨B6, 0, none⟩ = false := (hRq.2.1 ⟨B6, 0, none⟩).trans Hz6.out
    simp only [Oper.gives]
    go_simp
    obtain ⟨vq, hv2⟩ := Option.isSome_iff_exists.1 hvq
    simp only [hv2, Result.andThen]
    exact ⟨cellIs_set hvq, WR.store wq Ht6.out n6⟩
  intro vals wz hRwz hfwz
  simp only [AllFacts] at hfwz
  have g0 := hfwz.1
  replace hfwz := hfwz.2
  have g1 := hfwz.1
  replace hfwz := hfwz.2
  have g2 := hfwz.1
  replace hfwz := hfwz.2
  have g3 := hfwz.1
  replace hfwz := hfwz.2
  have g4 := hfwz.1
  replace hfwz := hfwz.2
  have g5 := hfwz.1
  replace hfwz := hfwz.2
  have g6 := hfwz.1
  replace hfwz := hfwz.2
  have g7 := hfwz.1
  replace hfwz := hfwz.2
  have g8 := hfwz.1
  replace hfwz := hfwz.2
  have g9 := hfwz.1
  replace hfwz := hfwz.2
  have g10 := hfwz.1
  replace hfwz := hfwz.2
  have g11 := hfwz.1
  replace hfwz := hfwz.2
  have g12 := hfwz.1
  replace hfwz := hfwz.2
  have g13 := hfwz.1
  replace hfwz := hfwz.2
  clear hfwz
  replace g0 : vals 0 = _ := g0
  replace g1 : vals 1 = _ := g1
  replace g2 : vals 2 = _ := g2
  replace g3 : vals 3 = _ := g3
  replace g4 : vals 4 = _ := g4
  replace g5 : vals 5 = _ := g5
  replace g6 : vals 6 = _ := g6
  replace g7 : vals 7 = _ := g7
  replace g8 : vals 8 = _ := g8
  replace g9 : vals 9 = _ := g9
  replace g10 : vals 10 = _ := g10
  simp only [canonP, Act.put, List.setIfInBounds_toArray, List.set_cons_succ, List.set_cons_zero, g0, g1, g2, g3, g4, g5, g6, g7, g8, g9, g10]
  clear g0 g1 g2 g3 g4 g5 g6 g7 g8 g9 g10
  exact ⟨trivial, HK.out _ _ _ _ _ _ _ _ _ _ _ _ ((WR.drew n₀ T W).trans hRwz) g11.out g12.out g13.out⟩
#print axioms reg6_in
end Go.Proofs.YtieknecbheeekaaDoor.Geo
/- What geo.What tells of a block: the first of the parts that ends behind it. -/
set_option linter.unusedVariables false
set_option linter.unusedSimpArgs false
namespace Go.Proofs.YtieknecbheeekaaDoor.Geo
open Go.RowKit Go.Shelf
attribute [local go_sem] Oper.semAt_some

def hitB (bl : Int) (y : Pt) : Bool := decide (bl < IntKind.i64.wrap ((y.fr : Int) + (y.size : Int)))
def atOf (bl : Int) (y : Pt) : Int := IntKind.i64.wrap (IntKind.i64.wrap ((y.place : Int) + bl) - (y.fr : Int))
def whatV (bl : Int) : Option Pt → Value
  | none => .tuple #[.int .u8 0, .int .i64 0, .int .i64 0]
  | some y => .tuple #[.int .u8 (y.kind : Int), .int .i64 (y.group : Int), .int .i64 (atOf bl y)]
theorem find_none (bl : Int) (l : List Pt) (h : ∀ y ∈ l, hitB bl y = false) : l.find? (hitB bl) = none := by
  rw [List.find?_eq_none]; intro x hx; rw [h x hx]; simp
theorem find_at (bl : Int) (l pre : List Pt) (x : Pt) (hp : pre ++ [x] <+: l) (h : ∀ y ∈ pre, hitB bl y = false) (hx : hitB bl x = true) : l.find? (hitB bl) = some x := by
  obtain ⟨t, rfl⟩ := hp
  rw [List.append_assoc, List.find?_append, find_none bl pre h]
  simp [hx]
/-- the cells of a part -/
def PtAt (W : World) (B : Nat) (x : Pt) : Prop :=
  W.cell? ⟨B, 0, none⟩ = some (.int .u8 (x.kind : Int)) ∧ W.cell? ⟨B, 1, none⟩ = some (.int .i64 (x.group : Int)) ∧ W.cell? ⟨B, 2, none⟩ = some (.int .i64 (x.fr : Int)) ∧ W.cell? ⟨B, 3, none⟩ = some (.int .i64 (x.size : Int)) ∧ W.cell? ⟨B, 4, none⟩ = some (.int .i64 (x.place : Int))
theorem PtAt.kept {A W : World} {row : Option Nat} {B : Nat} {x : Pt} (h : PtAt A B x) (hg : A.grownBy W row) (hr : ∀ r, row = some r → ∃ o : Obj, A.heap[r]? = some o ∧ o.isCells = false) : PtAt W B x :=
  ⟨cell_kept h.1 hg hr, cell_kept h.2.1 hg hr, cell_kept h.2.2.1 hg hr, cell_kept h.2.2.2.1 hg hr, cell_kept h.2.2.2.2 hg hr⟩

theorem five_boxes {w w1 : World} {gr sz ni jr : Nat} {bl : Int} (h : Grow (((((w.alloc (gbox gr sz ni jr)).alloc (.cells #[.int .i64 bl] 3)).alloc (.cells #[.int .u8 0] 5)).alloc (.cells #[.int .i64 0] 3)).alloc (.cells #[.int .i64 0] 3)) w1) :
    GAt w1 w.heap.size gr sz ni jr ∧ w1.cell? ⟨w.heap.size + 1, 0, none⟩ = some (.int .i64 bl) ∧ w1.cell? ⟨w.heap.size + 1 + 1, 0, none⟩ = some (.int .u8 0) ∧ w1.cell? ⟨w.heap.size + 1 + 1 + 1, 0, none⟩ = some (.int .i64 0) ∧ w1.cell? ⟨w.heap.size + 1 + 1 + 1 + 1, 0, none⟩ = some (.int .i64 0) ∧
    w1.frozen? ⟨w.heap.size + 1 + 1, 0, none⟩ = false ∧ w1.frozen? ⟨w.heap.size + 1 + 1 + 1, 0, none⟩ = false ∧ w1.frozen? ⟨w.heap.size + 1 + 1 + 1 + 1, 0, none⟩ = false ∧ w.heap.size + 5 ≤ w1.heap.size ∧ Grow w w1 := by
  have hs := Below.size h
  have hc : ∀ b o, b < w.heap.size + 5 → w1.cell? ⟨b, o, none⟩ = _ := fun b o hb => Below.cell h (p := ⟨b, o, none⟩) (by simp; omega)
  have hf : ∀ b o, b < w.heap.size + 5 → w1.frozen? ⟨b, o, none⟩ = _ := fun b o hb => Below.frozen h (p := ⟨b, o, none⟩) (by simp; omega)
  have hg : Grow w w1 := (((((Grow.alloc w _).trans (Grow.alloc _ _)).trans (Grow.alloc _ _)).trans (Grow.alloc _ _)).trans (Grow.alloc _ _)).trans h
  refine ⟨⟨?_, ?_, ?_, ?_⟩, ?_, ?_, ?_, ?_, ?_, ?_, ?_, by simp at hs; omega, hg⟩
  all_goals first | rw [hc _ _ (by omega)] | rw [hf _ _ (by omega)]
  all_goals go_simp

set_option maxRecDepth 100000 in
set_option maxHeartbeats 2000000 in
theorem what_may (gr sz ni jr : Nat) (bl : Int) (hM : May gr sz ni jr) (h0 : 0 ≤ bl) (w : World) :
    Calls Tryd.prog 22 #[gv gr sz ni jr, .int .i64 bl] w fun e w' => e = .returned (whatV bl ((partsOf gr sz ni jr).find? (hitB bl))) ∧ Grow w w' := by
  have hro : Fence.wide.round = none := rfl
  have HM := Lib.hid hM
  clear hM
  refine (callsIn_wide (n := 6)).1 ?_
  refine callsIn_of_wp_marks Tryd.func22 rfl trivial ?_ hro
  simp only [Tryd.ntmps22, List.size_toArray, List.length_cons, List.length_nil, Nat.reduceAdd, Nat.reduceSub, Array.replicate_succ, Array.replicate_zero, List.push_toArray, List.append_toArray, List.nil_append, List.cons_append]
  have hb0 : decide (bl < 0) = false := by simpa using h0
  gi_wp2_with fail
  refine ⟨trivial, (callsIn_wide.2 (may_yes gr sz ni jr HM.out _)).mono ?_⟩
  rintro e w1 ⟨rfl, hg⟩
  obtain ⟨cg, cb, c4, c5, c6, z4, z5, z6, hsz, hgw⟩ := five_boxes hg
  have HC := Lib.hid (⟨cb, c4, c5, c6, z4, z5, z6, hsz, hgw⟩ : _ ∧ _ ∧ _ ∧ _ ∧ _ ∧ _ ∧ _ ∧ _ ∧ _)
  clear hg c4 c5 c6 z4 z5 z6 hsz hgw
  obtain ⟨d0, d1, d2, d3⟩ := cg
  gi_wp2_with fail
  refine ⟨trivial, (parts_in 5 gr sz ni jr w1).mono ?_⟩
  rintro e w2 ⟨rfl, rfl⟩
  clear d0 d1 d2 d3 cb hb0
  gi_wp2_with fail
  obtain ⟨W0, hW0⟩ : ∃ W0, w1.alloc (gbox gr sz ni jr) = W0 := ⟨_, rfl⟩
  have hs0 : W0.heap.size = w1.heap.size + 1 := by rw [← hW0]; simp
  have hG0 : GAt W0 w1.heap.size gr sz ni jr := by rw [← hW0]; exact box_at (Grow.refl _)
  obtain ⟨cb, c4, c5, c6, z4, z5, z6, hsz, hgw⟩ := HC.out
  have hcc : ∀ (b o : Nat) (v : Value), b < w1.heap.size → w1.cell? ⟨b, o, none⟩ = some v → W0.cell? ⟨b, o, none⟩ = some v := fun b o v hb h => by
    rw [← hW0]; exact (Below.cell (Grow.alloc w1 _) (p := ⟨b, o, none⟩) hb).trans h
  have hff : ∀ (b o : Nat), b < w1.heap.size → w1.frozen? ⟨b, o, none⟩ = false → W0.frozen? ⟨b, o, none⟩ = false := fun b o hb h => by
    rw [← hW0]; exact (Below.frozen (Grow.alloc w1 _) (p := ⟨b, o, none⟩) hb).trans h
  have e4 := hcc _ _ _ (by omega) c4
  have e5 := hcc _ _ _ (by omega) c5
  have e6 := hcc _ _ _ (by omega) c6
  have eb := hcc _ _ _ (by omega) cb
  have y4 := hff _ _ (by omega) z4
  have y5 := hff _ _ (by omega) z5
  have y6 := hff _ _ (by omega) z6
  have hgw0 : Grow w W0 := by rw [← hW0]; exact hgw.trans (Grow.alloc _ _)
  rw [hW0]
  have HF := Lib.hid (⟨e4, e5, e6, eb, y4, y5, y6, hgw0, hG0⟩ : _ ∧ _ ∧ _ ∧ _ ∧ _ ∧ _ ∧ _ ∧ _ ∧ _)
  clear e4 e5 e6 eb y4 y5 y6 hgw0 hG0 hcc hff cb c4 c5 c6 z4 z5 z6 hgw HC hW0
  refine wpIn_rangeFunc_ownH (n := 6) hro (by omega) (gf := 56) (lb := #[.pointer (some ⟨w1.heap.size, 0, none⟩)]) rfl trivial (enters_of Tryd.func56 (by kernel_rfl) rfl)
    (parts_stops 5 (by omega) w1.heap.size (w1.heap.size + 1) gr sz ni jr HM.out W0 (by omega) (by omega) HF.out.2.2.2.2.2.2.2.2) belowK_t (belowK_b (by omega)) (Below.refl _ _) (fun _ => rfl)
    (fun pre W => (∀ y ∈ pre, hitB bl y = false) ∧ Below (w1.heap.size + 1) W0 W)
    (fun c pre W => (c = .ret ∧ ∃ (pre' : List Pt) (x : Pt), pre = pre' ++ [x] ∧ (∀ y ∈ pre', hitB bl y = false) ∧ hitB bl x = true ∧ W.cell? ⟨w.heap.size + 1 + 1, 0, none⟩ = some (.int .u8 (x.kind : Int)) ∧ W.cell? ⟨w.heap.size + 1 + 1 + 1, 0, none⟩ = some (.int .i64 (x.group : Int)) ∧ W.cell? ⟨w.heap.size + 1 + 1 + 1 + 1, 0, none⟩ = some (.int .i64 (atOf bl x))) ∧ Below w.heap.size w W)
    (OwnFrom.and (ownFrom_pure _ (fun pre => ∀ y ∈ pre, hitB bl y = false)) (ownFrom_below (by omega) (by omega)))
    (fun c => OwnFrom.and (Own.from (fun s A B row hs hg hr => by obtain ⟨h1, p', x, h2, h3, h4, h5, h6, h7⟩ := hs; exact ⟨h1, p', x, h2, h3, h4, cell_kept h5 hg hr, cell_kept h6 hg hr, cell_kept h7 hg hr⟩) _) (ownFrom_below (Nat.le_refl _) (by have := Below.size HF.out.2.2.2.2.2.2.2.1; omega)))
    ⟨(fun _ h => by cases h), Below.refl _ _⟩
    (fun x a' W => ∃ Bx, w1.heap.size + 1 ≤ Bx ∧ PtAt W Bx x ∧ a' = { tmps := #[gv gr sz ni jr, .int .i64 bl, .pointer (some ⟨w.heap.size, 0, none⟩), .pointer (some ⟨w.heap.size + 1, 0, none⟩), .pointer (some ⟨w.heap.size + 1 + 1, 0, none⟩), .pointer (some ⟨w.heap.size + 1 + 1 + 1, 0, none⟩), .pointer (some ⟨w.heap.size + 1 + 1 + 1 + 1, 0, none⟩), .pointer (some ⟨Bx, 0, none⟩),
      gv gr sz ni jr, .bool true, .bool false, .bool false, .int .i64 bl, .bool false, .bool false, gv gr sz ni jr, .func (.func 56) #[] #[.pointer (some ⟨w1.heap.size, 0, none⟩)], x.v, undef, undef, undef, undef, undef, undef, undef, undef, undef, undef, undef, undef, undef, undef, undef, undef, undef, undef], defers := [] })
    (fun x a' _ A B row hs hg hr => by obtain ⟨Bx, h1, h2, h3⟩ := hs; exact ⟨Bx, h1, h2.kept hg (fun r e => (hr r e).2), h3⟩) ?assign ?body ?done ?stop
  case assign =>
    intro l pre x W K hi hK
    obtain ⟨kd, gp, fr, sz', pl⟩ := x
    have hz := hi.2.size
    dsimp only [Pt.v]
    gi_wp2
    refine hK _ _ ((KeepsOthers.alloc _ _).from _) ((Below.refl _ W).alloc (by omega) _) ⟨hi.1, hi.2.alloc (by omega) _⟩ ⟨W.heap.size, by omega, ?_, rfl⟩
    refine ⟨?_, ?_, ?_, ?_, ?_⟩ <;> rw [cell_new] <;> rfl
  case body =>
    rintro l pre x a' W hl ⟨r, hr⟩ ⟨hp, hB⟩ ⟨Bx, hBx, hx, rfl⟩ hlt
    obtain ⟨kd, gp, fr, sz', pl⟩ := x
    have hz := hB.size
    obtain ⟨e4, e5, e6, eb, y4, y5, y6, hgw0, hG0⟩ := HF.out
    have xb := (hB.cell (p := ⟨w.heap.size + 1, 0, none⟩) (by simp; omega)).trans eb
    have f4 := (hB.cell (p := ⟨w.heap.size + 1 + 1, 0, none⟩) (by simp; omega)).trans e4
    have f5 := (hB.cell (p := ⟨w.heap.size + 1 + 1 + 1, 0, none⟩) (by simp; omega)).trans e5
    have f6 := (hB.cell (p := ⟨w.heap.size + 1 + 1 + 1 + 1, 0, none⟩) (by simp; omega)).trans e6
    have g4 := (hB.frozen (p := ⟨w.heap.size + 1 + 1, 0, none⟩) (by simp; omega)).trans y4
    have g5 := (hB.frozen (p := ⟨w.heap.size + 1 + 1 + 1, 0, none⟩) (by simp; omega)).trans y5
    have g6 := (hB.frozen (p := ⟨w.heap.size + 1 + 1 + 1 + 1, 0, none⟩) (by simp; omega)).trans y6
    have HG := Lib.hid (⟨f4, f5, f6, g4, g5, g6, hgw0⟩ : _ ∧ _ ∧ _ ∧ _ ∧ _ ∧ _ ∧ _)
    clear e4 e5 e6 eb y4 y5 y6 hgw0 hG0 f4 f5 f6 g4 g5 g6
    obtain ⟨x0, x1, x2, x3, x4⟩ := hx
    dsimp only at x0 x1 x2 x3 x4
    have HP := Lib.hid hp
    have HB := Lib.hid hB
    clear hp hB
    obtain ⟨S0, hS0⟩ : ∃ S0, IntKind.i64.wrap ((fr : Int) + (sz' : Int)) = S0 := ⟨_, rfl⟩
    dsimp only [Pt.v]
    by_cases hh : bl < S0
    · have HH := Lib.hid (show hitB bl ⟨kd, gp, fr, sz', pl⟩ = true by unfold hitB; rw [hS0]; simpa using hh)
      gi_upto_region 6 with (fail)
      clear hS0
      obtain ⟨f4, f5, f6, g4, g5, g6, hgw0⟩ := HG.out
      refine reg6_in l _ Bx (w.heap.size + 1) (w.heap.size + 1 + 1) (w.heap.size + 1 + 1 + 1) (w.heap.size + 1 + 1 + 1 + 1) w.heap.size kd gp fr pl bl _ _
        (fun b => if b = w.heap.size + 1 + 1 then some (.int .u8 (kd : Int)) else if b = w.heap.size + 1 + 1 + 1 then some (.int .i64 (gp : Int)) else if b = w.heap.size + 1 + 1 + 1 + 1 then some (.int .i64 (atOf bl ⟨kd, gp, fr, sz', pl⟩)) else none) W x0 x1 x2 x4 xb
        (by rw [if_neg (by omega), if_neg (by omega), if_neg (by omega)]) (by rw [if_neg (by omega), if_neg (by omega), if_neg (by omega)]) (by rw [if_pos rfl]) (by rw [if_neg (by omega), if_pos rfl]) (by rw [if_neg (by omega), if_neg (by omega), if_pos rfl]; rfl)
        (by omega) (by omega) (by omega) (by rw [f4]; rfl) (by rw [f5]; rfl) (by rw [f6]; rfl) g4 g5 g6 rfl rfl _ _ _ _ _ _ _ _ _ _ _ _ _ _ _ _ _ _ _ _ _ _ _ _ _ _ _ _ _ _ _ _ (Lib.hid ?_)
      clear f4 f5 f6 g4 g5 g6
      intro u25 u26 u27 u28 u29 u30 u31 u32 u33 u34 u35 wz hWR k4 k5 k6
      have HW := Lib.hid hWR
      have HK := Lib.hid (⟨k4, k5, k6⟩ : _ ∧ _ ∧ _)
      clear hWR k4 k5 k6
      gi_wp2
      obtain ⟨k4, k5, k6⟩ := HK.out
      exact ⟨HW.out.2.2.2.2.1.from _, ⟨rfl, pre, _, rfl, HP.out, HH.out, k4, k5, k6⟩, Below.trans (Below.trans (show Below w.heap.size w W0 from hgw0) (HB.out.mono (by have := Below.size hgw0; omega))) HW.out.2.2.2.2.2.1⟩
    · have hh' : decide (bl < S0) = false := by simpa using hh
      have HH := Lib.hid (show hitB bl ⟨kd, gp, fr, sz', pl⟩ = false by unfold hitB; rw [hS0]; exact hh')
      gi_wp2
      refine ⟨KeepsFrom.refl _ _, Below.refl _ _, ?_, HB.out⟩
      intro y hy
      rcases List.mem_append.1 hy with h | h
      · exact HP.out y h
      · obtain rfl := List.mem_singleton.1 h; exact HH.out
  case done =>
    rintro D ys W hD rfl ⟨hp, hB⟩ hK
    obtain ⟨e4, e5, e6, eb, y4, y5, y6, hgw0, hG0⟩ := HF.out
    have hz := hB.size
    have f4 := (hB.cell (p := ⟨w.heap.size + 1 + 1, 0, none⟩) (by simp; omega)).trans e4
    have f5 := (hB.cell (p := ⟨w.heap.size + 1 + 1 + 1, 0, none⟩) (by simp; omega)).trans e5
    have f6 := (hB.cell (p := ⟨w.heap.size + 1 + 1 + 1 + 1, 0, none⟩) (by simp; omega)).trans e6
    have g4 := (hB.frozen (p := ⟨w.heap.size + 1 + 1, 0, none⟩) (by simp; omega)).trans y4
    have g5 := (hB.frozen (p := ⟨w.heap.size + 1 + 1 + 1, 0, none⟩) (by simp; omega)).trans y5
    have g6 := (hB.frozen (p := ⟨w.heap.size + 1 + 1 + 1 + 1, 0, none⟩) (by simp; omega)).trans y6
    have HN := Lib.hid (find_none bl _ hp)
    have HB2 := Lib.hid (Below.trans (show Below w.heap.size w W0 from hgw0) (hB.mono (by have := Below.size hgw0; omega)))
    have HK := Lib.hid hK
    clear e4 e5 e6 eb y4 y5 y6 hgw0 hG0 hB hp hK
    gi_wp2
    have k4 : (((W.setCell ⟨w.heap.size + 1 + 1, 0, none⟩ (.int .u8 0)).setCell ⟨w.heap.size + 1 + 1 + 1, 0, none⟩ (.int .i64 0)).setCell ⟨w.heap.size + 1 + 1 + 1 + 1, 0, none⟩ (.int .i64 0)).cell? ⟨w.heap.size + 1 + 1, 0, none⟩ = some (.int .u8 0) := by go_simp
    have k5 : (((W.setCell ⟨w.heap.size + 1 + 1, 0, none⟩ (.int .u8 0)).setCell ⟨w.heap.size + 1 + 1 + 1, 0, none⟩ (.int .i64 0)).setCell ⟨w.heap.size + 1 + 1 + 1 + 1, 0, none⟩ (.int .i64 0)).cell? ⟨w.heap.size + 1 + 1 + 1, 0, none⟩ = some (.int .i64 0) := by go_simp
    have k6 : (((W.setCell ⟨w.heap.size + 1 + 1, 0, none⟩ (.int .u8 0)).setCell ⟨w.heap.size + 1 + 1 + 1, 0, none⟩ (.int .i64 0)).setCell ⟨w.heap.size + 1 + 1 + 1 + 1, 0, none⟩ (.int .i64 0)).cell? ⟨w.heap.size + 1 + 1 + 1 + 1, 0, none⟩ = some (.int .i64 0) := by go_simp
    have hB3 : Below w.heap.size w (((W.setCell ⟨w.heap.size + 1 + 1, 0, none⟩ (.int .u8 0)).setCell ⟨w.heap.size + 1 + 1 + 1, 0, none⟩ (.int .i64 0)).setCell ⟨w.heap.size + 1 + 1 + 1 + 1, 0, none⟩ (.int .i64 0)) :=
      ((HB2.out.setCell (p := ⟨w.heap.size + 1 + 1, 0, none⟩) (by simp; omega) _).setCell (p := ⟨w.heap.size + 1 + 1 + 1, 0, none⟩) (by simp; omega) _).setCell (p := ⟨w.heap.size + 1 + 1 + 1 + 1, 0, none⟩) (by simp; omega) _
    have hK3 := (((KeepsOthers.setCell W ⟨w.heap.size + 1 + 1, 0, none⟩ (.int .u8 0)).trans (KeepsOthers.setCell _ ⟨w.heap.size + 1 + 1 + 1, 0, none⟩ (.int .i64 0))).trans (KeepsOthers.setCell _ ⟨w.heap.size + 1 + 1 + 1 + 1, 0, none⟩ (.int .i64 0))).same D _ HK.out rfl
    revert k4 k5 k6 hB3 hK3
    generalize ((W.setCell ⟨w.heap.size + 1 + 1, 0, none⟩ (.int .u8 0)).setCell ⟨w.heap.size + 1 + 1 + 1, 0, none⟩ (.int .i64 0)).setCell ⟨w.heap.size + 1 + 1 + 1 + 1, 0, none⟩ (.int .i64 0) = W3
    intro k4 k5 k6 hB3 hK3
    refine ⟨by simp, .inl ⟨_, _, rfl, run_takeDeferred hK3, ?_⟩⟩
    have hc5 := cell_kept k4 (grownBy_putObj' _ D (.deferred none)) (fun r e => by cases e; exact ⟨_, hK3, rfl⟩)
    have hc6 := cell_kept k5 (grownBy_putObj' _ D (.deferred none)) (fun r e => by cases e; exact ⟨_, hK3, rfl⟩)
    have hc7 := cell_kept k6 (grownBy_putObj' _ D (.deferred none)) (fun r e => by cases e; exact ⟨_, hK3, rfl⟩)
    refine ⟨whatV bl none, ?_, by rw [HN.out], hB3.trans (belowK_b (w := w) (Nat.le_refl _) W3 D _ _ (by omega) hK3 rfl rfl)⟩
    simp [results, Tryd.f22, go_sem, hc5, hc6, hc7, whatV]
  case stop =>
    rintro D c pre W hD hpre ⟨⟨rfl, p', x, rfl, h3, h4, h5, h6, h7⟩, hB⟩ hK
    gi_wp2
    refine ⟨by simp, .inl ⟨_, _, rfl, run_takeDeferred hK, ?_⟩⟩
    have hc5 := cell_kept h5 (grownBy_putObj' _ D (.deferred none)) (fun r e => by cases e; exact ⟨_, hK, rfl⟩)
    have hc6 := cell_kept h6 (grownBy_putObj' _ D (.deferred none)) (fun r e => by cases e; exact ⟨_, hK, rfl⟩)
    have hc7 := cell_kept h7 (grownBy_putObj' _ D (.deferred none)) (fun r e => by cases e; exact ⟨_, hK, rfl⟩)
    refine ⟨whatV bl (some x), ?_, by rw [find_at bl _ _ x hpre h3 h4], hB.trans (belowK_b (w := w) (Nat.le_refl _) W D _ _ (by have := Below.size HF.out.2.2.2.2.2.2.2.1; omega) hK rfl rfl)⟩
    simp [results, Tryd.f22, go_sem, hc5, hc6, hc7, whatV]
#print axioms what_may
end Go.Proofs.YtieknecbheeekaaDoor.Geo
/- geo.Blocks, geo.Data, geo.What for whatever geometry; the law's awake. -/
set_option linter.unusedVariables false
set_option linter.unusedSimpArgs false
namespace Go.Proofs.YtieknecbheeekaaDoor.Geo
open Go.RowKit Go.Shelf

def nBlocks (gr sz ni jr : Int) : Int := if May gr sz ni jr then 2 + jr + gr * sz else 0
def nData (gr sz ni jr : Int) : Int := if May gr sz ni jr then sz - 2 - ni / 4 else 0
def startOf (gr sz ni jr k : Int) : Value := if May gr sz ni jr ∧ 0 ≤ k ∧ k < gr then .tuple #[.int .i64 (2 + jr + k * sz), .bool true] else .tuple #[.int .i64 0, .bool false]
theorem hit_of (b : Nat) (y : Pt) (h : y.fr + y.size ≤ 100000) : hitB (b : Int) y = decide (b < y.fr + y.size) := by
  unfold hitB
  rw [IntWalk.i64_in _ (by omega)]
  rw [decide_eq_decide]
  omega
theorem at_of (b : Nat) (y : Pt) (h : y.fr ≤ b) (h1 : b ≤ 100000) (h2 : y.place ≤ 100000) : atOf (b : Int) y = ((y.place + (b - y.fr) : Nat) : Int) := by
  unfold atOf
  rw [IntWalk.i64_in _ (show -9223372036854775808 ≤ (y.place : Int) + (b : Int) ∧ (y.place : Int) + (b : Int) ≤ 9223372036854775807 by omega), IntWalk.i64_in _ (by omega)]
  omega
def thV (t : Th) : Value := .tuple #[.int .u8 (t.kind : Int), .int .i64 (t.group : Int), .int .i64 (t.pos : Int)]
theorem find_grp (gr sz ni jr b : Nat) (hs : sz ≤ 512) (hj : jr ≤ 256) (hn : 2 + ni / 4 ≤ sz) (hb : 2 + jr ≤ b) : ∀ g, g ≤ 4 → (if b < 2 + jr + g * sz then ∃ y, ((List.range g).flatMap (own4 sz ni jr)).find? (hitB (b : Int)) = some y ∧ whatV b (some y) = thV (whatT sz ni jr b) else ((List.range g).flatMap (own4 sz ni jr)).find? (hitB (b : Int)) = none) := by
  intro g
  induction g with
  | zero => intro _; rw [if_neg (by omega)]; rfl
  | succ g ih =>
    intro hg
    have ih := ih (by omega)
    have hgs : g * sz ≤ 4 * 512 := Nat.mul_le_mul (by omega) hs
    have e1 : (g + 1) * sz = g * sz + sz := by rw [Nat.add_mul, Nat.one_mul]
    rw [upto_grp, List.find?_append, e1]
    by_cases h : b < 2 + jr + g * sz
    · rw [if_pos h] at ih
      obtain ⟨y, hy, hv⟩ := ih
      rw [if_pos (by omega)]
      exact ⟨y, by rw [hy]; rfl, hv⟩
    · rw [if_neg h] at ih
      rw [ih, Option.none_or]
      obtain ⟨y, hy⟩ : ∃ y, b = 2 + jr + (g * sz + y) := ⟨b - 2 - jr - g * sz, by omega⟩
      have hw := fun h => what_grp sz ni jr g y h
      rw [← hy] at hw
      generalize hss : g * sz = s at *
      unfold own4
      rw [hss]
      by_cases a0 : y < sz
      · rw [if_pos (by omega), hw a0]
        clear hw ih
        simp only [List.find?_cons]
        rw [hit_of b ⟨4, g, 2 + jr + s, 1, 0⟩ (by dsimp only; omega), hit_of b ⟨5, g, 2 + jr + s + 1, 1, 1⟩ (by dsimp only; omega), hit_of b ⟨6, g, 2 + jr + s + 2, ni / 4, 2⟩ (by dsimp only; omega), hit_of b ⟨7, g, 2 + jr + s + 2 + ni / 4, sz - 2 - ni / 4, 2 + ni / 4⟩ (by dsimp only; omega)]
        dsimp only
        by_cases a1 : y < 1
        · rw [decide_eq_true (by omega)]
          refine ⟨_, rfl, ?_⟩
          rw [if_pos (by omega)]
          simp only [whatV, thV]
          rw [at_of b _ (by dsimp only; omega) (by omega) (by dsimp only; omega)]
          obtain rfl : y = 0 := by omega
          dsimp only
          rw [show 0 + (b - (2 + jr + s)) = 0 by omega]
        rw [decide_eq_false (by omega)]
        dsimp only
        by_cases a2 : y < 2
        · rw [decide_eq_true (by omega)]
          refine ⟨_, rfl, ?_⟩
          rw [if_pos (by omega)]
          simp only [whatV, thV]
          rw [at_of b _ (by dsimp only; omega) (by omega) (by dsimp only; omega)]
          obtain rfl : y = 1 := by omega
          dsimp only
          rw [show 1 + (b - (2 + jr + s + 1)) = 1 by omega]
        rw [decide_eq_false (by omega)]
        dsimp only
        by_cases a3 : y < 2 + ni / 4
        · rw [decide_eq_true (by omega)]
          refine ⟨_, rfl, ?_⟩
          rw [if_neg (by omega), if_pos (by omega)]
          simp only [whatV, thV]
          rw [at_of b _ (by dsimp only; omega) (by omega) (by dsimp only; omega)]
          dsimp only
          rw [show 2 + (b - (2 + jr + s + 2)) = y by omega]
        rw [decide_eq_false (by omega)]
        dsimp only
        rw [decide_eq_true (by omega)]
        refine ⟨_, rfl, ?_⟩
        rw [if_neg (by omega), if_neg (by omega)]
        simp only [whatV, thV]
        rw [at_of b _ (by dsimp only; omega) (by omega) (by dsimp only; omega)]
        dsimp only
        rw [show 2 + ni / 4 + (b - (2 + jr + s + 2 + ni / 4)) = y by omega]
      · rw [if_neg (by omega)]
        simp only [List.find?_cons]
        rw [hit_of b ⟨4, g, 2 + jr + s, 1, 0⟩ (by dsimp only; omega), hit_of b ⟨5, g, 2 + jr + s + 1, 1, 1⟩ (by dsimp only; omega), hit_of b ⟨6, g, 2 + jr + s + 2, ni / 4, 2⟩ (by dsimp only; omega), hit_of b ⟨7, g, 2 + jr + s + 2 + ni / 4, sz - 2 - ni / 4, 2 + ni / 4⟩ (by dsimp only; omega)]
        dsimp only
        rw [decide_eq_false (by omega)]
        dsimp only
        rw [decide_eq_false (by omega)]
        dsimp only
        rw [decide_eq_false (by omega)]
        dsimp only
        rw [decide_eq_false (by omega)]
        rfl

def zero3 : Value := .tuple #[.int .u8 0, .int .i64 0, .int .i64 0]
theorem find_what (gr sz ni jr b : Nat) (hM : May gr sz ni jr) : whatV b ((partsOf gr sz ni jr).find? (hitB (b : Int))) = if b < 2 + jr + gr * sz then thV (whatT sz ni jr b) else zero3 := by
  obtain ⟨h1, h2, h3, h4, h5, h6, h7, h8, h9, h10, h11⟩ := hM
  have hgs : gr * sz ≤ 4 * 512 := Nat.mul_le_mul (by omega) (by omega)
  unfold partsOf
  rw [List.find?_append]
  unfold hd3
  simp only [List.find?_cons, List.find?_nil]
  rw [hit_of b ⟨1, 0, 0, 1, 0⟩ (by dsimp only; omega), hit_of b ⟨2, 0, 1, 1, 0⟩ (by dsimp only; omega), hit_of b ⟨3, 0, 2, jr, 0⟩ (by dsimp only; omega)]
  dsimp only
  by_cases a1 : b < 1
  · rw [decide_eq_true (by omega), if_pos (by omega)]
    obtain rfl : b = 0 := by omega
    dsimp only [Option.some_or]
    simp only [whatV, thV]
    rw [at_of 0 _ (by dsimp only; omega) (by omega) (by dsimp only; omega)]
    rfl
  rw [decide_eq_false (by omega)]
  by_cases a2 : b < 2
  · rw [decide_eq_true (by omega), if_pos (by omega)]
    obtain rfl : b = 1 := by omega
    dsimp only [Option.some_or]
    simp only [whatV, thV]
    rw [at_of 1 _ (by dsimp only; omega) (by omega) (by dsimp only; omega)]
    rfl
  rw [decide_eq_false (by omega)]
  by_cases a3 : b < 2 + jr
  · rw [decide_eq_true (by omega), if_pos (by omega)]
    dsimp only [Option.some_or]
    simp only [whatV, thV]
    rw [at_of b _ (by dsimp only; omega) (by omega) (by dsimp only; omega)]
    unfold whatT
    rw [if_neg (by omega), if_pos (by omega)]
    dsimp only
    rw [Nat.zero_add]
  rw [decide_eq_false (by omega)]
  dsimp only
  rw [Option.none_or]
  have hf := find_grp gr sz ni jr b (by omega) (by omega) (by omega) (by omega) gr (by omega)
  by_cases a4 : b < 2 + jr + gr * sz
  · rw [if_pos a4] at hf ⊢
    obtain ⟨y, hy, hv⟩ := hf
    rw [hy, hv]
  · rw [if_neg a4] at hf ⊢
    rw [hf]
    rfl
/-- what a block is, for whatever geometry and number -/
def whatOf (gr sz ni jr bl : Int) : Value :=
  if May gr sz ni jr ∧ 0 ≤ bl ∧ bl < nBlocks gr sz ni jr then thV (whatT sz.toNat ni.toNat jr.toNat bl.toNat) else zero3
theorem five_cells {w w1 : World} {gr sz ni jr bl : Int} (h : Grow (((((w.alloc (gbox gr sz ni jr)).alloc (.cells #[.int .i64 bl] 3)).alloc (.cells #[.int .u8 0] 5)).alloc (.cells #[.int .i64 0] 3)).alloc (.cells #[.int .i64 0] 3)) w1) :
    w1.cell? ⟨w.heap.size + 1, 0, none⟩ = some (.int .i64 bl) ∧ w1.cell? ⟨w.heap.size + 1 + 1, 0, none⟩ = some (.int .u8 0) ∧ w1.cell? ⟨w.heap.size + 1 + 1 + 1, 0, none⟩ = some (.int .i64 0) ∧ w1.cell? ⟨w.heap.size + 1 + 1 + 1 + 1, 0, none⟩ = some (.int .i64 0) ∧
    w1.frozen? ⟨w.heap.size + 1 + 1, 0, none⟩ = false ∧ w1.frozen? ⟨w.heap.size + 1 + 1 + 1, 0, none⟩ = false ∧ w1.frozen? ⟨w.heap.size + 1 + 1 + 1 + 1, 0, none⟩ = false ∧ w.heap.size + 5 ≤ w1.heap.size ∧ Grow w w1 := by
  have hs := Below.size h
  have hc : ∀ b o, b < w.heap.size + 5 → w1.cell? ⟨b, o, none⟩ = _ := fun b o hb => Below.cell h (p := ⟨b, o, none⟩) (by simp; omega)
  have hf : ∀ b o, b < w.heap.size + 5 → w1.frozen? ⟨b, o, none⟩ = _ := fun b o hb => Below.frozen h (p := ⟨b, o, none⟩) (by simp; omega)
  have hg : Grow w w1 := (((((Grow.alloc w _).trans (Grow.alloc _ _)).trans (Grow.alloc _ _)).trans (Grow.alloc _ _)).trans (Grow.alloc _ _)).trans h
  refine ⟨?_, ?_, ?_, ?_, ?_, ?_, ?_, by simp at hs; omega, hg⟩
  all_goals first | rw [hc _ _ (by omega)] | rw [hf _ _ (by omega)]
  all_goals go_simp
theorem what_end {w w1 : World} (c4 : w1.cell? ⟨w.heap.size + 1 + 1, 0, none⟩ = some (.int .u8 0)) (c5 : w1.cell? ⟨w.heap.size + 1 + 1 + 1, 0, none⟩ = some (.int .i64 0)) (c6 : w1.cell? ⟨w.heap.size + 1 + 1 + 1 + 1, 0, none⟩ = some (.int .i64 0)) (hg : Grow w w1) :
    ∃ W3, W3 = ((w1.setCell ⟨w.heap.size + 1 + 1, 0, none⟩ (.int .u8 0)).setCell ⟨w.heap.size + 1 + 1 + 1, 0, none⟩ (.int .i64 0)).setCell ⟨w.heap.size + 1 + 1 + 1 + 1, 0, none⟩ (.int .i64 0) ∧
      W3.cell? ⟨w.heap.size + 1 + 1, 0, none⟩ = some (.int .u8 0) ∧ W3.cell? ⟨w.heap.size + 1 + 1 + 1, 0, none⟩ = some (.int .i64 0) ∧ W3.cell? ⟨w.heap.size + 1 + 1 + 1 + 1, 0, none⟩ = some (.int .i64 0) ∧ Grow w W3 := by
  refine ⟨_, rfl, by go_simp, by go_simp, by go_simp, ?_⟩
  exact ((Below.setCell (p := ⟨w.heap.size + 1 + 1, 0, none⟩) hg (by simp; omega) _).setCell (p := ⟨w.heap.size + 1 + 1 + 1, 0, none⟩) (by simp; omega) _).setCell (p := ⟨w.heap.size + 1 + 1 + 1 + 1, 0, none⟩) (by simp; omega) _
set_option maxHeartbeats 1000000 in
theorem what_any (gr sz ni jr bl : Int) (w : World) :
    Calls Tryd.prog 22 #[gv gr sz ni jr, .int .i64 bl] w fun e w' => e = .returned (whatOf gr sz ni jr bl) ∧ Grow w w' := by
  by_cases h : May gr sz ni jr
  · by_cases h0 : 0 ≤ bl
    · obtain ⟨a, b, c, d, rfl, rfl, rfl, rfl⟩ := may_nat h
      obtain ⟨x, rfl⟩ : ∃ x : Nat, bl = x := ⟨bl.toNat, by omega⟩
      refine (what_may a b c d x h h0 w).mono fun e w' ⟨he, hg⟩ => ⟨?_, hg⟩
      rw [he, find_what a b c d x h]
      unfold whatOf nBlocks
      have e1 : ((a : Int) * (b : Int)) = ((a * b : Nat) : Int) := by simp
      rw [if_pos h, e1]
      by_cases hx : x < 2 + d + a * b
      · rw [if_pos hx, if_pos ⟨h, h0, by omega⟩]
        simp
      · rw [if_neg hx, if_neg (fun k => hx (by omega))]
    · have HM := Lib.hid h
      have HE := Lib.hid (show whatOf gr sz ni jr bl = zero3 from if_neg (fun k => h0 k.2.1))
      have hb : bl < 0 := by omega
      clear h h0
      go_enter Tryd.func22, Tryd.ntmps22
      go_wp2_with fail
      refine (may_yes gr sz ni jr HM.out _).mono ?_
      rintro e w1 ⟨rfl, hg⟩
      obtain ⟨cb, c4, c5, c6, z4, z5, z6, hsz, hgw⟩ := five_cells hg
      have HC := Lib.hid (what_end c4 c5 c6 hgw)
      clear hg hgw
      go_wp2_with fail
      obtain ⟨W3, hW3, k4, k5, k6, hg3⟩ := HC.out
      rw [← hW3]
      exact bodyPost_ret (v := zero3) (by simp [results, Tryd.results22, go_sem, k4, k5, k6, zero3]) rfl ⟨by rw [HE.out], hg3⟩
  · have HM := Lib.hid h
    have HE := Lib.hid (show whatOf gr sz ni jr bl = zero3 from if_neg (fun k => h k.1))
    clear h
    go_enter Tryd.func22, Tryd.ntmps22
    go_wp2_with fail
    refine (may_no gr sz ni jr HM.out _).mono ?_
    rintro e w1 ⟨rfl, hg⟩
    obtain ⟨cb, c4, c5, c6, z4, z5, z6, hsz, hgw⟩ := five_cells hg
    have HC := Lib.hid (what_end c4 c5 c6 hgw)
    clear hg hgw
    go_wp2_with fail
    obtain ⟨W3, hW3, k4, k5, k6, hg3⟩ := HC.out
    rw [← hW3]
    exact bodyPost_ret (v := zero3) (by simp [results, Tryd.results22, go_sem, k4, k5, k6, zero3]) rfl ⟨by rw [HE.out], hg3⟩
#print axioms what_any
end Go.Proofs.YtieknecbheeekaaDoor.Geo
