/- What a row's arguments give to the walks: one call; a head. -/
import Derived.Test.YtokehhegomiciaaOpen
set_option linter.unusedVariables false
namespace Go.Proofs.Ytokehhegomiciaa
open Go.ChangeShapes Go.WideShapes Go.ChangeAt Go.RowKit Go.Deep Go.Joins

section
variable {H : Type} {enc : TypeId × Value → H} {W : World}
set_option maxRecDepth 100000 in
theorem act_of {r : Reach} {b0 : Nat} {v : Value} {d : DataW H} {p : List MemPlace} (hv : Value.okWide Try.prog W r b0 43 v)
    (h : DataW.Trod enc Try.prog W 0 (fun _ => true) true 43 v d p) : ∃ x : AV, v = .agg (acell x).toArray ∧ AVIs W x ∧ AVLen x := by
  obtain ⟨cs, rfl, hs⟩ := okWide_struct Try.underlying43 hv
  rw [show Try.prog.cellsOf 43 = 6 by kernel_rfl] at hs
  obtain ⟨fuel, hf⟩ := h
  obtain ⟨x, hx, h1, h2⟩ := actC_of (cs := cs.toList) (by simpa using hs) hf
  exact ⟨x, by rw [← hx], h1, h2⟩
set_option maxRecDepth 100000 in
theorem head_of {r : Reach} {b0 : Nat} {v : Value} {d : DataW H} {p : List MemPlace} (hv : Value.okWide Try.prog W r b0 53 v)
    (h : DataW.Trod enc Try.prog W 0 (fun _ => true) true 53 v d p) : ∃ (n : Nat) (z : Int), v = .agg #[.int .u32 (n : Int), .int .i64 z] ∧ n < 4294967296 ∧ IntOk z := by
  obtain ⟨v0, v1, y0, y1, n, rfl, _, _, h0, h1⟩ := open_agg2 Try.underlying53 (by kernel_rfl) (by kernel_rfl) hv h
  obtain ⟨a, e0, _, w0⟩ := DataW.trod_int Try.underlying25 h0
  obtain ⟨b, e1, _, w1⟩ := DataW.trod_int Try.underlying3 h1
  simp only [List.cons.injEq, and_true] at e0 e1
  subst e0 e1
  obtain ⟨m, rfl, hm⟩ := nat_u32 w0
  exact ⟨m, b, rfl, hm, i64_of w1⟩
end
#print axioms head_of
end Go.Proofs.Ytokehhegomiciaa
