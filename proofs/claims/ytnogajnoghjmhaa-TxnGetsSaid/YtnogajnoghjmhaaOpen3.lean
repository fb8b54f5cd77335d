/- What a row's arguments give to the walks: puts. -/
import Derived.Test.YtnogajnoghjmhaaOpen
import Derived.Test.YtnogajnoghjmhaaT27
set_option linter.unusedVariables false
namespace Go.Proofs.Ytnogajnoghjmhaa
open Go.ChangeShapes Go.WideShapes Go.ChangeAt Go.RowKit Go.Deep Go.Joins

set_option maxRecDepth 100000 in
theorem putAt_of {H : Type} {enc : TypeId × Value → H} {W : World} {x : Addr} {cs : List Value} {n : Nat} {z : DataW H × List MemPlace} (hc : W.cells? 0 x 2 = some cs)
    (h : DataW.trod enc Try.prog W 0 (fun _ => true) true n 30 cs = some z) : ∃ p : PP, W.cell? x = some (.int .i64 p.1) ∧ W.cell? (x.add 1) = some (.int .u32 (p.2 : Int)) ∧ p.2 < 4294967296 := by
  obtain ⟨_, hl, hcell⟩ := World.cells?_some hc
  obtain ⟨y0, y1, m, _, _, t0, t1⟩ := trod_struct2 Try.underlying30 h
  match cs, hl with
  | [v0, v1], _ =>
    rw [show Try.prog.cellsOf 3 = 1 by kernel_rfl] at t0
    rw [show Try.prog.cellsOf 22 = 1 by kernel_rfl] at t1
    simp only [List.drop_succ_cons, List.drop_zero, List.take_succ_cons, List.take_zero] at t0 t1
    have c0 := hcell 0 (by omega)
    have c1 := hcell 1 (by omega)
    rw [add_zero'] at c0
    simp only [List.getElem?_cons_zero, List.getElem?_cons_succ] at c0 c1
    obtain ⟨z0, e0, _, w0⟩ := DataW.trod_int Try.underlying3 t0
    obtain ⟨z1, e1, _, w1⟩ := DataW.trod_int Try.underlying22 t1
    simp only [List.cons.injEq, and_true] at e0 e1
    subst e0 e1
    have b1 := u32_of w1
    exact ⟨(z0, z1.toNat), c0, by rw [c1]; show _ = some (Value.int .u32 ((z1.toNat : Nat) : Int)); rw [show ((z1.toNat : Nat) : Int) = z1 by omega], by show z1.toNat < _; omega⟩
set_option maxRecDepth 100000 in
theorem puts_of {H : Type} {enc : TypeId × Value → H} {W : World} {a : Option Addr} {len cap : Nat} {d : DataW H} {p : List MemPlace}
    (h : DataW.Trod enc Try.prog W 0 (fun _ => true) true 23 (.slice a len cap) d p) : ∃ l, PutsIn W (.slice a len cap) l ∧ l.length ≤ 9223372036854775807 := by
  obtain ⟨fuel, hf⟩ := h
  rcases open_slice Try.underlying23 hf with ⟨hcs, _⟩ | ⟨x, l, c, m, n, D, Pl, hcs, _, hl, hc, hm, _, hi⟩
  · simp [Value.cells] at hcs
    obtain ⟨rfl, rfl, rfl⟩ := hcs
    exact ⟨[], ⟨none, 0, rfl, fun i p h => by simp at h⟩, by simp⟩
  · simp [Value.cells] at hcs
    obtain ⟨rfl, rfl, rfl⟩ := hcs
    simp only [if_true] at hm
    subst hm
    rw [show Try.prog.cellsOf 30 = 2 by kernel_rfl] at hi
    have hex : ∀ i, ∃ p : PP, i < len → W.cell? (x.add (i * 2)) = some (.int .i64 p.1) ∧ W.cell? ((x.add (i * 2)).add 1) = some (.int .u32 (p.2 : Int)) ∧ p.2 < 4294967296 := by
      intro i
      by_cases hil : i < len
      · obtain ⟨cs', hc', ht'⟩ := hi i (by omega)
        obtain ⟨p, hp⟩ := putAt_of hc' ht'
        exact ⟨p, fun _ => hp⟩
      · exact ⟨(0, 0), fun h => absurd h hil⟩
    obtain ⟨F, hF⟩ := Classical.axiomOfChoice hex
    refine ⟨(List.range len).map F, ⟨some x, m, by simp, ?_⟩, by simp; unfold maxLen at hc; omega⟩
    intro i q hq
    have hil : i < len := by
      have := (List.getElem?_eq_some_iff.1 hq).1
      simpa using this
    rw [List.getElem?_map, List.getElem?_range hil] at hq
    simp only [Option.map_some, Option.some.injEq] at hq
    have h1 := hF i hil
    rw [hq] at h1
    refine ⟨x, rfl, ?_, h1⟩
    have := World.block_lt_of_cell? W _ h1.1
    rwa [add_block] at this
#print axioms puts_of
end Go.Proofs.Ytnogajnoghjmhaa
