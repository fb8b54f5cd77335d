/- What a disk is behind some writes: the plain side. -/
import Derived.Test.YtkcbjhdklenlbaaD19
set_option linter.unusedVariables false
set_option linter.unusedSimpArgs false
namespace Go.Proofs.Ytkcbjhdklenlbaa
open Go.RowKit

/-- the writes of l that a disk of n blocks does -/
def ins (n : Nat) (l : List (Int × Nat)) : List (Nat × Blk) := l.filterMap fun (p : Int × Nat) => if 0 ≤ p.1 ∧ p.1 < (n : Int) then some (p.1.toNat, fillB p.2) else none
theorem ins_snoc (n : Nat) (l : List (Int × Nat)) (k : Nat) (p : Int × Nat) (h : l[k]? = some p) : ins n (l.take (k + 1)) = ins n (l.take k) ++ (if 0 ≤ p.1 ∧ p.1 < (n : Int) then [(p.1.toNat, fillB p.2)] else []) := by
  have hk : k < l.length := (List.getElem?_eq_some_iff.1 h).1
  have he : l[k] = p := (List.getElem?_eq_some_iff.1 h).2
  unfold ins
  rw [List.take_succ_eq_append_getElem hk, List.filterMap_append, he]
  congr 1
  by_cases c : 0 ≤ p.1 ∧ p.1 < (n : Int)
  · rw [if_pos c]; simp [c]
  · rw [if_neg c]; simp only [List.filterMap_cons, List.filterMap_nil, if_neg c]
theorem ins_length (n : Nat) (l : List (Int × Nat)) : (ins n l).length ≤ l.length := List.length_filterMap_le _ _
theorem ins_lt (n : Nat) (l : List (Int × Nat)) : ∀ p ∈ ins n l, p.1 < n := by
  intro p hp
  obtain ⟨q, _, h⟩ := List.mem_filterMap.1 hp
  by_cases c : 0 ≤ q.1 ∧ q.1 < (n : Int)
  · rw [if_pos c] at h; cases h; dsimp only; omega
  · rw [if_neg c] at h; cases h
def noughts (n : Nat) : List Blk := List.replicate n zeroB
/-- what the blocks hold behind the writes -/
def putM (n : Nat) (l : List (Int × Nat)) : List Blk := applyW (noughts n) (ins n l)
theorem putM_length (n : Nat) (l : List (Int × Nat)) : (putM n l).length = n := by unfold putM; rw [applyW_length]; simp [noughts]
theorem putM_snoc (n : Nat) (l : List (Int × Nat)) (k : Nat) (p : Int × Nat) (h : l[k]? = some p) : putM n (l.take (k + 1)) = if 0 ≤ p.1 ∧ p.1 < (n : Int) then (putM n (l.take k)).set p.1.toNat (fillB p.2) else putM n (l.take k) := by
  unfold putM
  rw [ins_snoc n l k p h]
  by_cases c : 0 ≤ p.1 ∧ p.1 < (n : Int)
  · rw [if_pos c, if_pos c, applyW_snoc]
  · rw [if_neg c, if_neg c, List.append_nil]
def putD (n : Nat) (l : List (Int × Nat)) : DS := { safe := noughts n, last := putM n l, ws := ins n l, acts := (ins n l).length, set := false, left := 0 }
theorem putD_nil (n : Nat) : putD n [] = newD n := rfl
theorem putD_why (n : Nat) (l : List (Int × Nat)) (b : Int) : (putD n l).why b = if 0 ≤ b ∧ b < n then 0 else 2 := by
  unfold DS.why
  rw [if_neg (by simp [DS.dead, putD])]
  simp [putD, noughts]
theorem putD_snoc (n : Nat) (l : List (Int × Nat)) (k : Nat) (p : Int × Nat) (h : l[k]? = some p) : (putD n (l.take k)).tried p.1 (fillB p.2) = putD n (l.take (k + 1)) := by
  unfold DS.tried
  rw [putD_why]
  unfold putD
  rw [putM_snoc n l k p h, ins_snoc n l k p h]
  by_cases c : 0 ≤ p.1 ∧ p.1 < (n : Int)
  · simp only [if_pos c, if_true, DS.wrote, DS.acted]
    simp
  · simp only [if_neg c]
    simp
/-- the blocks that came in -/
def Puts (w : World) (v : Value) (l : List (Int × Nat)) : Prop := ∃ a cap, v = .slice a l.length cap ∧ ∀ i p, l[i]? = some p → ∃ y : Addr, a = some y ∧ y.block < w.heap.size ∧ w.cell? (y.add (i * 2)) = some (.int .i64 p.1) ∧ w.cell? ((y.add (i * 2)).add 1) = some (.int .u32 (p.2 : Int)) ∧ p.2 < 4294967296 ∧ -9223372036854775808 ≤ p.1 ∧ p.1 ≤ 9223372036854775807
#print axioms putD_snoc
end Go.Proofs.Ytkcbjhdklenlbaa
