/- slices.Sort of integers, of a row of the call's own. -/
import Derived.Test.YtokehhegomiciaaOps
import Derived.Test.YtokehhegomiciaaShelf
import Derived.Test.YtokehhegomiciaaRows
import Derived.Sort.OwnSortedInts
import Derived.IntWalk
import Derived.WalkLawsBesides
set_option linter.unusedVariables false
set_option linter.unusedSimpArgs false
namespace Go.Proofs.Ytokehhegomiciaa
open Go.RowKit Go.Sort

def icell (z : Int) : List Value := [.int .i64 z]
theorem icells (zs : List Int) : (zs.map icell).flatten = zs.map (Value.int .i64) := by
  induction zs with
  | nil => rfl
  | cons z zs ih => rw [List.map_cons, List.flatten_cons, ih]; rfl
/-- a row of integers -/
def IRow (w : World) (v : Value) (zs : List Int) : Prop := Row w 3 1 v (zs.map icell)
def sortI (zs : List Int) : List Int := zs.mergeSort fun x y => decide (x ≤ y)
theorem sortI_length (zs : List Int) : (sortI zs).length = zs.length := List.length_mergeSort _
theorem sortI_perm (zs : List Int) : (sortI zs).Perm zs := List.mergeSort_perm _ _
theorem sortI_sorted (zs : List Int) : (sortI zs).Pairwise (· ≤ ·) := by
  have := List.pairwise_mergeSort (le := fun (x y : Int) => decide (x ≤ y)) (by intro a b c; simp; omega) (by intro a b; simp; omega) zs
  unfold sortI
  simpa using this
theorem bitsLen_zero (w : World) : Calls Try.prog 41 #[.int .u64 0] w fun e w' => e = .returned (.int .i64 0) ∧ w' = w := by
  go_enter Try.func41, Try.ntmps41
  go_wp2
  go_ret
  exact ⟨by show Ending.returned (.int .i64 (wrap64 (wrap64 (Lib.len8 0)))) = _; rw [show wrap64 (wrap64 (Lib.len8 0)) = 0 by decide +kernel], rfl⟩
theorem insertion_nil (p : Option Addr) (cap : Nat) (w : World) :
    Calls Try.prog 45 #[.slice p 0 cap, .int .i64 0, .int .i64 0] w fun e w' => e = .returned (.tuple #[]) ∧ w' = w := by
  go_enter Try.func45, Try.ntmps45
  go_wp2
  refine wp_loop_rounds 1 ?_
  rw [rounds_succ]
  go_wp2
  go_end0
  exact ⟨rfl, rfl⟩
set_option maxRecDepth 100000 in
theorem pdq_nil (p : Option Addr) (cap : Nat) (w : World) :
    Calls Try.prog 40 #[.slice p 0 cap, .int .i64 0, .int .i64 0, .int .i64 0] w fun e w' => e = .returned (.tuple #[]) ∧ w' = w := by
  go_enter Try.func40, Try.ntmps40
  go_wp2
  refine wp_loop_rounds 1 ?_
  rw [rounds_succ]
  go_wp2_with (first | (go_at_call 45; refine (insertion_nil p cap _).mono ?_; rintro e w' ⟨rfl, rfl⟩))
  refine bodyPost_ret (results_none rfl _ _ _) rfl ?_
  exact ⟨rfl, rfl⟩
set_option maxRecDepth 100000 in
theorem sort_nil (p : Option Addr) (cap : Nat) (w : World) :
    Calls Try.prog 35 #[.slice p 0 cap] w fun e w' => e = .returned (.tuple #[]) ∧ w' = w := by
  go_enter Try.func35, Try.ntmps35
  go_wp2_with (first
    | (go_at_call 41; refine (bitsLen_zero _).mono ?_; rintro e w' ⟨rfl, rfl⟩)
    | (go_at_call 40; refine (pdq_nil p cap _).mono ?_; rintro e w' ⟨rfl, rfl⟩))
  go_end0
  exact ⟨rfl, rfl⟩
theorem sort_ints {w : World} {v : Value} {zs : List Int} (h : IRow w v zs) (hl : zs.length ≤ 1000000) :
    Calls Try.prog 35 #[v] w fun e w' => e = .returned (.tuple #[]) ∧ IRow w' v (sortI zs) ∧ Touch (ownL v) w w' := by
  obtain ⟨h0, h1, h2⟩ := h
  rw [List.length_map, icells] at h2
  rcases h2 with ⟨hv, hn⟩ | ⟨g, cap, cur, hv, hb, hh, hc1, hc2, hc3, hc4⟩
  · have hz : zs = [] := List.eq_nil_of_length_eq_zero hn
    subst hz
    rw [hv]
    refine (sort_nil none 0 w).mono ?_
    rintro e w' ⟨rfl, rfl⟩
    exact ⟨rfl, by unfold IRow sortI; rw [List.mergeSort_nil]; exact rowNil _ _ _, Touch.refl _ _⟩
  · rw [hv]
    have hc4' : cur.toList.take zs.length = zs.map (Value.int .i64) := by simpa using hc4
    refine (Any.slices_Sort_int Try.lays189 g 0 cap zs w (holds_of_blockI hh hc4') (Array.getElem?_eq_some_iff.1 hh).1 (by omega)).mono ?_
    rintro e w' ⟨rfl, n, os, rfl⟩
    refine ⟨rfl, ⟨fun c hc => ?_, ?_⟩, Touch.grown (grownBy_sortedI _) (fun k e => ?_)⟩
    · obtain ⟨z, _, rfl⟩ := List.mem_map.1 hc; rfl
    · rw [List.length_map, icells, sortI_length]
      exact ownsRow_sortedI (sortI_length zs) (Nat.zero_le _) hh hc1 hc2 hc3
    · rw [ownL_mem]; exact e
#print axioms sort_ints
end Go.Proofs.Ytokehhegomiciaa
