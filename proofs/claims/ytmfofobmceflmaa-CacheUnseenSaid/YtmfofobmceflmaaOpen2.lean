/- What a row's arguments give to the walks: an act. -/
import Derived.Test.YtmfofobmceflmaaOpen
import Derived.Deep.Grids
set_option linter.unusedVariables false
namespace Go.Proofs.Ytmfofobmceflmaa
open Go.ChangeShapes Go.WideShapes Go.ChangeAt Go.RowKit Go.Deep Go.Joins

set_option maxRecDepth 100000 in
theorem act_of {H : Type} {enc : TypeId × Value → H} {W : World} {r : Reach} {b0 : Nat} {v : Value} {d : DataW H} {p : List MemPlace} (hv : Value.okWide Try.prog W r b0 49 v)
    (h : DataW.Trod enc Try.prog W 0 (fun _ => true) true 49 v d p) : ∃ (k a : Int) (f : Nat) (vk : Value), v = .agg #[.int .u8 k, .int .i64 a, .int .u32 (f : Int), vk] ∧ f < 4294967296 := by
  obtain ⟨v0, v1, v2, v3, y0, y1, y2, y3, n, rfl, _, _, h0, h1, h2, h3⟩ := open_agg4 Try.underlying49 (by kernel_rfl) (by kernel_rfl) hv h
  obtain ⟨a, e0, _, w0⟩ := DataW.trod_int Try.underlying5 h0
  obtain ⟨b, e1, _, w1⟩ := DataW.trod_int Try.underlying3 h1
  obtain ⟨c, e2, _, w2⟩ := DataW.trod_int Try.underlying46 h2
  simp only [List.cons.injEq, and_true] at e0 e1 e2
  subst e0 e1 e2
  have b2 := u32_of w2
  refine ⟨a, b, c.toNat, v3, ?_, by omega⟩
  rw [show ((c.toNat : Nat) : Int) = c by omega]
end Go.Proofs.Ytmfofobmceflmaa
