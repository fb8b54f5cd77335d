/- What a row's arguments give to the walks: acts. -/
import Derived.Test.YtmfofobmceflmaaOpen2
import Derived.Test.YtmfofobmceflmaaC19
set_option linter.unusedVariables false
namespace Go.Proofs.Ytmfofobmceflmaa
open Go.ChangeShapes Go.WideShapes Go.ChangeAt Go.RowKit Go.Deep Go.Joins

set_option maxRecDepth 100000 in
theorem actU_of {H : Type} {enc : TypeId × Value → H} {W : World} {x : Addr} {cs : List Value} {n : Nat} {z : DataW H × List MemPlace} (hc : W.cells? 0 x 4 = some cs)
    (h : DataW.trod enc Try.prog W 0 (fun _ => true) true n 49 cs = some z) : ∃ p, ActU W x p := by
  obtain ⟨_, hl, hcell⟩ := World.cells?_some hc
  obtain ⟨y0, y1, y2, y3, m, _, _, t0, t1, t2, t3⟩ := trod_struct4 Try.underlying49 h
  match cs, hl with
  | [v0, v1, v2, v3], _ =>
    rw [show Try.prog.cellsOf 5 = 1 by kernel_rfl] at t0
    rw [show Try.prog.cellsOf 3 = 1 by kernel_rfl] at t1
    rw [show Try.prog.cellsOf 46 = 1 by kernel_rfl] at t2
    rw [show Try.prog.cellsOf 47 = 1 by kernel_rfl] at t3
    simp only [List.drop_succ_cons, List.drop_zero, List.take_succ_cons, List.take_zero] at t0 t1 t2 t3
    have c0 := hcell 0 (by omega)
    have c1 := hcell 1 (by omega)
    have c2 := hcell 2 (by omega)
    have c3 := hcell 3 (by omega)
    rw [add_zero'] at c0
    simp only [List.getElem?_cons_zero, List.getElem?_cons_succ] at c0 c1 c2 c3
    obtain ⟨z0, e0, _, w0⟩ := DataW.trod_int Try.underlying5 t0
    obtain ⟨z1, e1, _, w1⟩ := DataW.trod_int Try.underlying3 t1
    obtain ⟨z2, e2, _, w2⟩ := DataW.trod_int Try.underlying46 t2
    simp only [List.cons.injEq, and_true] at e0 e1 e2
    subst e0 e1 e2
    have b2 := u32_of w2
    have hv3 : v3.oneCell' = true := by
      rcases open_bools Try.underlying47 Try.underlying4 (by kernel_rfl) t3 with ⟨hcs, _⟩ | ⟨x3, l, c, Bf, hcs, _⟩
      · simp only [List.cons.injEq, and_true] at hcs
        rw [hcs]; rfl
      · simp only [List.cons.injEq, and_true] at hcs
        rw [hcs]; rfl
    refine ⟨⟨z0, z1, z2.toNat⟩, v3, c0, c1, ?_, c3, hv3, u8_of w0, i64_of w1, by show z2.toNat < _; omega⟩
    rw [c2]
    show _ = some (Value.int .u32 ((z2.toNat : Nat) : Int))
    rw [show ((z2.toNat : Nat) : Int) = z2 by omega]
set_option maxRecDepth 100000 in
theorem acts_of {H : Type} {enc : TypeId × Value → H} {W : World} {a : Option Addr} {len cap : Nat} {d : DataW H} {p : List MemPlace}
    (h : DataW.Trod enc Try.prog W 0 (fun _ => true) true 67 (.slice a len cap) d p) : ∃ l, ActsU W (.slice a len cap) l ∧ l.length ≤ 9223372036854775807 := by
  obtain ⟨fuel, hf⟩ := h
  rcases open_slice Try.underlying67 hf with ⟨hcs, _⟩ | ⟨x, l, c, m, n, D, Pl, hcs, _, hl, hc, hm, _, hi⟩
  · simp [Value.cells] at hcs
    obtain ⟨rfl, rfl, rfl⟩ := hcs
    exact ⟨[], ⟨none, 0, rfl, fun i p h => by simp at h⟩, by simp⟩
  · simp [Value.cells] at hcs
    obtain ⟨rfl, rfl, rfl⟩ := hcs
    simp only [if_true] at hm
    subst hm
    rw [show Try.prog.cellsOf 49 = 4 by kernel_rfl] at hi
    have hex : ∀ i, ∃ p : AU, i < len → ActU W (x.add (i * 4)) p := by
      intro i
      by_cases hil : i < len
      · obtain ⟨cs', hc', ht'⟩ := hi i (by omega)
        obtain ⟨p, hp⟩ := actU_of hc' ht'
        exact ⟨p, fun _ => hp⟩
      · exact ⟨⟨0, 0, 0⟩, fun h => absurd h hil⟩
    obtain ⟨F, hF⟩ := Classical.axiomOfChoice hex
    refine ⟨(List.range len).map F, ⟨some x, m, by simp, ?_⟩, by simp; unfold maxLen at hc; omega⟩
    intro i q hq
    have hil : i < len := by
      have := (List.getElem?_eq_some_iff.1 hq).1
      simpa using this
    rw [List.getElem?_map, List.getElem?_range hil] at hq
    simp only [Option.map_some, Option.some.injEq] at hq
    have h1 := hF i hil
    rw [hq] at h1
    refine ⟨x, rfl, ?_, h1⟩
    obtain ⟨vk, h0, _⟩ := h1
    have := World.block_lt_of_cell? W _ h0
    rwa [add_block] at this
#print axioms acts_of
end Go.Proofs.Ytmfofobmceflmaa
