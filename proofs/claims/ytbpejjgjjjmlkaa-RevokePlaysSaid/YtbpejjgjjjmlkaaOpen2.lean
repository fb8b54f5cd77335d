/- What a row's arguments give to the walks: acts. -/
import Derived.Test.YtbpejjgjjjmlkaaOpen
import Derived.Test.YtbpejjgjjjmlkaaR13
set_option linter.unusedVariables false
namespace Go.Proofs.Ytbpejjgjjjmlkaa
open Go.ChangeShapes Go.WideShapes Go.ChangeAt Go.RowKit Go.Deep Go.Joins

def ActAt (w : World) (x : Addr) (p : QP) : Prop := w.cell? x = some (.int .u8 p.1) ∧ w.cell? (x.add 1) = some (.int .i64 p.2.1) ∧ w.cell? (x.add 2) = some (.int .u32 (p.2.2 : Int)) ∧ RcOk (p.2.1, p.2.2) ∧ 0 ≤ p.1 ∧ p.1 < 256
theorem actAt_of {H : Type} {enc : TypeId × Value → H} {W : World} {x : Addr} {cs : List Value} {n : Nat} {z : DataW H × List MemPlace} (hc : W.cells? 0 x 3 = some cs)
    (h : DataW.trod enc Try.prog W 0 (fun _ => true) true n 45 cs = some z) : ∃ p, ActAt W x p := by
  obtain ⟨_, hl, hcell⟩ := World.cells?_some hc
  obtain ⟨y0, y1, y2, m, _, _, t0, t1, t2⟩ := trod_struct3 Try.underlying45 h
  match cs, hl with
  | [v0, v1, v2], _ =>
    rw [show Try.prog.cellsOf 5 = 1 by kernel_rfl] at t0
    rw [show Try.prog.cellsOf 3 = 1 by kernel_rfl] at t1
    rw [show Try.prog.cellsOf 23 = 1 by kernel_rfl] at t2
    simp only [List.drop_succ_cons, List.drop_zero, List.take_succ_cons, List.take_zero] at t0 t1 t2
    have c0 := hcell 0 (by omega)
    have c1 := hcell 1 (by omega)
    have c2 := hcell 2 (by omega)
    rw [add_zero'] at c0
    simp only [List.getElem?_cons_zero, List.getElem?_cons_succ] at c0 c1 c2
    obtain ⟨z0, e0, _, w0⟩ := DataW.trod_int Try.underlying5 t0
    obtain ⟨z1, e1, _, w1⟩ := DataW.trod_int Try.underlying3 t1
    obtain ⟨z2, e2, _, w2⟩ := DataW.trod_int Try.underlying23 t2
    simp only [List.cons.injEq, and_true] at e0 e1 e2
    subst e0 e1 e2
    have b0 := u8_of w0
    have b1 := i64_of w1
    have b2 := u32_of w2
    refine ⟨(z0, z1, z2.toNat), c0, c1, ?_, ⟨b1.1, b1.2, by show z2.toNat < _; omega⟩, b0.1, b0.2⟩
    rw [c2]
    show _ = some (Value.int .u32 ((z2.toNat : Nat) : Int))
    rw [show ((z2.toNat : Nat) : Int) = z2 by omega]
theorem acts_of {H : Type} {enc : TypeId × Value → H} {W : World} {a : Option Addr} {len cap : Nat} {d : DataW H} {p : List MemPlace}
    (h : DataW.Trod enc Try.prog W 0 (fun _ => true) true 37 (.slice a len cap) d p) : ∃ l, ActsIn W (.slice a len cap) l ∧ l.length ≤ 9223372036854775807 := by
  obtain ⟨fuel, hf⟩ := h
  rcases open_slice Try.underlying37 hf with ⟨hcs, _⟩ | ⟨x, l, c, m, n, D, Pl, hcs, _, hl, hc, hm, _, hi⟩
  · simp [Value.cells] at hcs
    obtain ⟨rfl, rfl, rfl⟩ := hcs
    exact ⟨[], ⟨none, 0, rfl, fun i p h => by simp at h⟩, by simp⟩
  · simp [Value.cells] at hcs
    obtain ⟨rfl, rfl, rfl⟩ := hcs
    simp only [if_true] at hm
    subst hm
    rw [show Try.prog.cellsOf 45 = 3 by kernel_rfl] at hi
    have hex : ∀ i, ∃ p : QP, i < len → ActAt W (x.add (i * 3)) p := by
      intro i
      by_cases hil : i < len
      · obtain ⟨cs', hc', ht'⟩ := hi i (by omega)
        obtain ⟨p, hp⟩ := actAt_of hc' ht'
        exact ⟨p, fun _ => hp⟩
      · exact ⟨(0, 0, 0), fun h => absurd h hil⟩
    obtain ⟨F, hF⟩ := Classical.axiomOfChoice hex
    refine ⟨(List.range len).map F, ⟨some x, m, by simp, ?_⟩, by simp; unfold maxLen at hc; omega⟩
    intro i q hq
    have hil : i < len := by
      have := (List.getElem?_eq_some_iff.1 hq).1
      simpa using this
    rw [List.getElem?_map, List.getElem?_range hil] at hq
    simp only [Option.map_some, Option.some.injEq] at hq
    have h1 := hF i hil
    rw [hq] at h1
    refine ⟨x, rfl, ?_, h1⟩
    have := World.block_lt_of_cell? W _ h1.1
    rwa [add_block] at this
theorem act_of {H : Type} {enc : TypeId × Value → H} {W : World} {r : Reach} {b0 : Nat} {v : Value} {d : DataW H} {p : List MemPlace} (hv : Value.okWide Try.prog W r b0 45 v)
    (h : DataW.Trod enc Try.prog W 0 (fun _ => true) true 45 v d p) : ∃ (k a : Int) (f : Nat), v = .agg #[.int .u8 k, .int .i64 a, .int .u32 (f : Int)] ∧ f < 4294967296 := by
  obtain ⟨v0, v1, v2, y0, y1, y2, n, rfl, _, _, h0, h1, h2⟩ := open_agg3 Try.underlying45 (by kernel_rfl) (by kernel_rfl) hv h
  obtain ⟨a, e0, _, w0⟩ := DataW.trod_int Try.underlying5 h0
  obtain ⟨b, e1, _, w1⟩ := DataW.trod_int Try.underlying3 h1
  obtain ⟨c, e2, _, w2⟩ := DataW.trod_int Try.underlying23 h2
  simp only [List.cons.injEq, and_true] at e0 e1 e2
  subst e0 e1 e2
  have b2 := u32_of w2
  refine ⟨a, b, c.toNat, ?_, by omega⟩
  rw [show ((c.toNat : Nat) : Int) = c by omega]
end Go.Proofs.Ytbpejjgjjjmlkaa
