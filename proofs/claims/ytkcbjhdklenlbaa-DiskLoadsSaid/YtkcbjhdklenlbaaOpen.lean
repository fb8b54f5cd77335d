/- What a row's arguments give to the walks: rows of blocks to be written, flags, integers. -/
import Derived.Test.YtkcbjhdklenlbaaD21
import Derived.ProofKit
import Derived.OpenShut
import Derived.ChangeOld
import Derived.Below
import Derived.LaidLaws
import Derived.Deep.DeepHandedRow
import Derived.Deep.SlicePairs
import Derived.Deep.Grids
set_option linter.unusedVariables false
namespace Go.Proofs.Ytkcbjhdklenlbaa
open Go.ChangeShapes Go.WideShapes Go.ChangeAt Go.RowKit Go.Deep

theorem i64_of {a : Int} (w : (Lit.int .i64 a).wf = true) : -9223372036854775808 ≤ a ∧ a ≤ 9223372036854775807 := by
  simpa [Lit.wf, IntKind.min, IntKind.max, IntKind.signed, IntKind.bits] using w
theorem u32_of {a : Int} (w : (Lit.int .u32 a).wf = true) : 0 ≤ a ∧ a < 4294967296 := by
  simp [Lit.wf, IntKind.min, IntKind.max, IntKind.signed, IntKind.bits] at w
  omega
theorem puts_of {H : Type} {enc : TypeId × Value → H} {W : World} {a : Option Addr} {len cap : Nat} {d : DataW H} {p : List MemPlace}
    (h : DataW.Trod enc Try.prog W 0 (fun _ => true) true 22 (.slice a len cap) d p) : ∃ l, Puts W (.slice a len cap) l ∧ l.length ≤ 9223372036854775807 := by
  obtain ⟨fuel, hf⟩ := h
  rcases open_slice_pairs Try.underlying22 Try.underlying45 (by kernel_rfl) rfl rfl (by kernel_rfl) (by kernel_rfl) hf with ⟨hcs, _⟩ | ⟨x, l, c, m, n, V0, V1, D0, D1, P0, P1, hcs, _, hl, hc, hm, _, hi⟩
  · simp [Value.cells] at hcs
    obtain ⟨rfl, rfl, rfl⟩ := hcs
    exact ⟨[], ⟨none, 0, rfl, fun i p h => by simp at h⟩, by simp⟩
  · simp [Value.cells] at hcs
    obtain ⟨rfl, rfl, rfl⟩ := hcs
    simp only [if_true] at hm
    subst hm
    refine ⟨(List.range len).map fun i => (intOf (V0 i), (intOf (V1 i)).toNat), ⟨some x, m, by simp, ?_⟩, by simp; unfold maxLen at hc; omega⟩
    intro i q hq
    have hil : i < len := by
      have := (List.getElem?_eq_some_iff.1 hq).1
      simpa using this
    obtain ⟨c0, c1, t0, t1⟩ := hi i (by omega)
    obtain ⟨z0, e0, _, w0⟩ := DataW.trod_int Try.underlying3 t0
    obtain ⟨z1, e1, _, w1⟩ := DataW.trod_int Try.underlying34 t1
    simp only [List.cons.injEq, and_true] at e0 e1
    have hq' : q = (z0, z1.toNat) := by
      rw [List.getElem?_map, List.getElem?_range hil] at hq
      simp only [Option.map_some, Option.some.injEq, e0, e1] at hq
      exact hq.symm
    subst hq'
    have b1 := u32_of w1
    refine ⟨x, rfl, ?_, ?_, ?_, ?_, i64_of w0⟩
    · have := World.block_lt_of_cell? W _ c0
      rwa [add_block] at this
    · rw [c0, e0]
    · rw [add_add, c1, e1]
      congr 2
      show z1 = ((z1.toNat : Nat) : Int)
      omega
    · show z1.toNat < _
      omega
/-- flags that came in -/
def Flags (w : World) (v : Value) (ks : List Bool) : Prop := ∃ a cap, v = .slice a ks.length cap ∧ ∀ i x, ks[i]? = some x → ∃ y : Addr, a = some y ∧ y.block < w.heap.size ∧ w.cell? (y.add i) = some (.bool x)
theorem flags_of {H : Type} {enc : TypeId × Value → H} {W : World} {a : Option Addr} {len cap : Nat} {d : DataW H} {p : List MemPlace}
    (h : DataW.Trod enc Try.prog W 0 (fun _ => true) true 50 (.slice a len cap) d p) : ∃ ks, Flags W (.slice a len cap) ks ∧ ks.length ≤ 9223372036854775807 := by
  obtain ⟨fuel, hf⟩ := h
  rcases open_bools Try.underlying50 Try.underlying4 (by kernel_rfl) hf with ⟨hcs, _⟩ | ⟨x, l, c, Bf, hcs, _, hl, hc, _, hi⟩
  · simp [Value.cells] at hcs
    obtain ⟨rfl, rfl, rfl⟩ := hcs
    exact ⟨[], ⟨none, 0, rfl, fun i p h => by simp at h⟩, by simp⟩
  · simp [Value.cells] at hcs
    obtain ⟨rfl, rfl, rfl⟩ := hcs
    refine ⟨(List.range len).map Bf, ⟨some x, cap, by simp, ?_⟩, by simp; unfold maxLen at hc; omega⟩
    intro i q hq
    have hil : i < len := by
      have := (List.getElem?_eq_some_iff.1 hq).1
      simpa using this
    have hq' : Bf i = q := by
      rw [List.getElem?_map, List.getElem?_range hil] at hq
      simpa using hq
    have c0 := hi i (by omega)
    refine ⟨x, rfl, ?_, by rw [c0, hq']⟩
    have := World.block_lt_of_cell? W _ c0
    rwa [add_block] at this
end Go.Proofs.Ytkcbjhdklenlbaa
