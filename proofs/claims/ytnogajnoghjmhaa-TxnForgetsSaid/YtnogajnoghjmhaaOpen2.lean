/- What a row's arguments give to the walks: bytes. -/
import Derived.Test.YtnogajnoghjmhaaOpen
import Derived.Test.YtnogajnoghjmhaaT25
set_option linter.unusedVariables false
namespace Go.Proofs.Ytnogajnoghjmhaa
open Go.ChangeShapes Go.WideShapes Go.ChangeAt Go.RowKit Go.Deep Go.Joins

set_option maxRecDepth 100000 in
theorem u8At_of {H : Type} {enc : TypeId × Value → H} {W : World} {x : Addr} {cs : List Value} {n : Nat} {z : DataW H × List MemPlace} (hc : W.cells? 0 x 1 = some cs)
    (h : DataW.trod enc Try.prog W 0 (fun _ => true) true n 5 cs = some z) : ∃ p : Nat, W.cell? x = some (.int .u8 (p : Int)) ∧ p < 256 := by
  obtain ⟨_, hl, hcell⟩ := World.cells?_some hc
  match cs, hl with
  | [v0], _ =>
    have c0 := hcell 0 (by omega)
    rw [add_zero'] at c0
    simp only [List.getElem?_cons_zero] at c0
    obtain ⟨z0, e0, _, w0⟩ := DataW.trod_int Try.underlying5 h
    simp only [List.cons.injEq, and_true] at e0
    subst e0
    have b0 := u8_of w0
    exact ⟨z0.toNat, by rw [c0, show ((z0.toNat : Nat) : Int) = z0 by omega], by omega⟩
set_option maxRecDepth 100000 in
theorem u8s_of {H : Type} {enc : TypeId × Value → H} {W : World} {a : Option Addr} {len cap : Nat} {d : DataW H} {p : List MemPlace}
    (h : DataW.Trod enc Try.prog W 0 (fun _ => true) true 48 (.slice a len cap) d p) : ∃ l, U8sIn W (.slice a len cap) l ∧ l.length ≤ 9223372036854775807 := by
  obtain ⟨fuel, hf⟩ := h
  rcases open_slice Try.underlying48 hf with ⟨hcs, _⟩ | ⟨x, l, c, m, n, D, Pl, hcs, _, hl, hc, hm, _, hi⟩
  · simp [Value.cells] at hcs
    obtain ⟨rfl, rfl, rfl⟩ := hcs
    exact ⟨[], ⟨none, 0, rfl, fun i p h => by simp at h⟩, by simp⟩
  · simp [Value.cells] at hcs
    obtain ⟨rfl, rfl, rfl⟩ := hcs
    simp only [if_true] at hm
    subst hm
    rw [show Try.prog.cellsOf 5 = 1 by kernel_rfl] at hi
    have hex : ∀ i, ∃ p : Nat, i < len → W.cell? (x.add i) = some (.int .u8 (p : Int)) ∧ p < 256 := by
      intro i
      by_cases hil : i < len
      · obtain ⟨cs', hc', ht'⟩ := hi i (by omega)
        rw [Nat.mul_one] at hc'
        obtain ⟨p, hp⟩ := u8At_of hc' ht'
        exact ⟨p, fun _ => hp⟩
      · exact ⟨0, fun h => absurd h hil⟩
    obtain ⟨F, hF⟩ := Classical.axiomOfChoice hex
    refine ⟨(List.range len).map F, ⟨some x, m, by simp, ?_⟩, by simp; unfold maxLen at hc; omega⟩
    intro i q hq
    have hil : i < len := by
      have := (List.getElem?_eq_some_iff.1 hq).1
      simpa using this
    rw [List.getElem?_map, List.getElem?_range hil] at hq
    simp only [Option.map_some, Option.some.injEq] at hq
    have h1 := hF i hil
    rw [hq] at h1
    refine ⟨x, rfl, ?_, h1⟩
    have := World.block_lt_of_cell? W _ h1.1
    rwa [add_block] at this
#print axioms u8s_of
end Go.Proofs.Ytnogajnoghjmhaa
