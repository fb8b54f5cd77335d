/- What a row's arguments give to the walks: acts, integers. -/
import Derived.Test.YtnogajnoghjmhaaTIn
import Derived.ProofKit
import Derived.OpenShut
import Derived.ChangeOld
import Derived.Below
import Derived.LaidLaws
import Derived.Deep.DeepHandedRow
import Derived.Deep.Slices
import Derived.Deep.Strs
import Derived.Deep.Grids
import Derived.Lib.SmallJoins
set_option linter.unusedVariables false
namespace Go.Proofs.Ytnogajnoghjmhaa
open Go.ChangeShapes Go.WideShapes Go.ChangeAt Go.RowKit Go.Deep Go.Joins

theorem i64_of {a : Int} (w : (Lit.int .i64 a).wf = true) : IntOk a := by
  unfold IntOk
  simpa [Lit.wf, IntKind.min, IntKind.max, IntKind.signed, IntKind.bits] using w
theorem u32_of {a : Int} (w : (Lit.int .u32 a).wf = true) : 0 ≤ a ∧ a < 4294967296 := by
  simp [Lit.wf, IntKind.min, IntKind.max, IntKind.signed, IntKind.bits] at w
  omega
theorem u8_of {a : Int} (w : (Lit.int .u8 a).wf = true) : 0 ≤ a ∧ a < 256 := by
  simp [Lit.wf, IntKind.min, IntKind.max, IntKind.signed, IntKind.bits] at w
  omega
theorem nat_u32 {a : Int} (w : (Lit.int .u32 a).wf = true) : ∃ n : Nat, a = (n : Int) ∧ n < 4294967296 := ⟨a.toNat, by have := u32_of w; omega, by have := u32_of w; omega⟩
theorem add_zero' (x : Addr) : x.add 0 = x := by unfold Addr.add; split <;> simp_all
theorem ap_mk {z0 z1 z2 z3 : Int} (w0 : (Lit.int .u8 z0).wf = true) (w1 : (Lit.int .i64 z1).wf = true) (w2 : (Lit.int .i64 z2).wf = true) (w3 : (Lit.int .u32 z3).wf = true) : ∃ p : AP, p.ok ∧ (p.k : Int) = z0 ∧ p.at_ = z1 ∧ p.more = z2 ∧ (p.fill : Int) = z3 := by
  have b0 := u8_of w0
  have b3 := u32_of w3
  exact ⟨⟨z0.toNat, z1, z2, z3.toNat⟩, ⟨by show z0.toNat < _; omega, i64_of w1, i64_of w2, by show z3.toNat < _; omega⟩, by show ((z0.toNat : Nat) : Int) = z0; omega, rfl, rfl, by show ((z3.toNat : Nat) : Int) = z3; omega⟩
set_option maxRecDepth 100000 in
theorem act_of {H : Type} {enc : TypeId × Value → H} {W : World} {r : Reach} {b0 : Nat} {v : Value} {d : DataW H} {p : List MemPlace} (hv : Value.okWide Try.prog W r b0 56 v)
    (h : DataW.Trod enc Try.prog W 0 (fun _ => true) true 56 v d p) : ∃ x : AP, v = .agg x.cells.toArray ∧ x.ok := by
  obtain ⟨v0, v1, v2, v3, y0, y1, y2, y3, n, rfl, _, _, h0, h1, h2, h3⟩ := open_agg4 Try.underlying56 (by kernel_rfl) (by kernel_rfl) hv h
  obtain ⟨a, e0, _, w0⟩ := DataW.trod_int Try.underlying5 h0
  obtain ⟨b, e1, _, w1⟩ := DataW.trod_int Try.underlying3 h1
  obtain ⟨c, e2, _, w2⟩ := DataW.trod_int Try.underlying3 h2
  obtain ⟨f, e3, _, w3⟩ := DataW.trod_int Try.underlying22 h3
  simp only [List.cons.injEq, and_true] at e0 e1 e2 e3
  subst e0 e1 e2 e3
  obtain ⟨x, hx, h0, h1, h2, h3⟩ := ap_mk w0 w1 w2 w3
  exact ⟨x, by unfold AP.cells; rw [h0, h1, h2, h3], hx⟩
set_option maxRecDepth 100000 in
theorem actAt_of {H : Type} {enc : TypeId × Value → H} {W : World} {x : Addr} {cs : List Value} {n : Nat} {z : DataW H × List MemPlace} (hc : W.cells? 0 x 4 = some cs)
    (h : DataW.trod enc Try.prog W 0 (fun _ => true) true n 56 cs = some z) : ∃ p, ActAt W x p := by
  obtain ⟨_, hl, hcell⟩ := World.cells?_some hc
  obtain ⟨y0, y1, y2, y3, m, _, _, t0, t1, t2, t3⟩ := trod_struct4 Try.underlying56 h
  match cs, hl with
  | [v0, v1, v2, v3], _ =>
    rw [show Try.prog.cellsOf 5 = 1 by kernel_rfl] at t0
    rw [show Try.prog.cellsOf 3 = 1 by kernel_rfl] at t1 t2
    rw [show Try.prog.cellsOf 22 = 1 by kernel_rfl] at t3
    simp only [List.drop_succ_cons, List.drop_zero, List.take_succ_cons, List.take_zero] at t0 t1 t2 t3
    have c0 := hcell 0 (by omega)
    have c1 := hcell 1 (by omega)
    have c2 := hcell 2 (by omega)
    have c3 := hcell 3 (by omega)
    rw [add_zero'] at c0
    simp only [List.getElem?_cons_zero, List.getElem?_cons_succ] at c0 c1 c2 c3
    obtain ⟨z0, e0, _, w0⟩ := DataW.trod_int Try.underlying5 t0
    obtain ⟨z1, e1, _, w1⟩ := DataW.trod_int Try.underlying3 t1
    obtain ⟨z2, e2, _, w2⟩ := DataW.trod_int Try.underlying3 t2
    obtain ⟨z3, e3, _, w3⟩ := DataW.trod_int Try.underlying22 t3
    simp only [List.cons.injEq, and_true] at e0 e1 e2 e3
    subst e0 e1 e2 e3
    obtain ⟨x, hx, h0, h1, h2, h3⟩ := ap_mk w0 w1 w2 w3
    exact ⟨x, by rw [h0]; exact c0, by rw [h1]; exact c1, by rw [h2]; exact c2, by rw [h3]; exact c3, hx⟩
set_option maxRecDepth 100000 in
theorem acts_of {H : Type} {enc : TypeId × Value → H} {W : World} {a : Option Addr} {len cap : Nat} {d : DataW H} {p : List MemPlace}
    (h : DataW.Trod enc Try.prog W 0 (fun _ => true) true 53 (.slice a len cap) d p) : ∃ l, ActsIn W (.slice a len cap) l ∧ l.length ≤ 9223372036854775807 := by
  obtain ⟨fuel, hf⟩ := h
  rcases open_slice Try.underlying53 hf with ⟨hcs, _⟩ | ⟨x, l, c, m, n, D, Pl, hcs, _, hl, hc, hm, _, hi⟩
  · simp [Value.cells] at hcs
    obtain ⟨rfl, rfl, rfl⟩ := hcs
    exact ⟨[], ⟨none, 0, rfl, fun i p h => by simp at h⟩, by simp⟩
  · simp [Value.cells] at hcs
    obtain ⟨rfl, rfl, rfl⟩ := hcs
    simp only [if_true] at hm
    subst hm
    rw [show Try.prog.cellsOf 56 = 4 by kernel_rfl] at hi
    have hex : ∀ i, ∃ p : AP, i < len → ActAt W (x.add (i * 4)) p := by
      intro i
      by_cases hil : i < len
      · obtain ⟨cs', hc', ht'⟩ := hi i (by omega)
        obtain ⟨p, hp⟩ := actAt_of hc' ht'
        exact ⟨p, fun _ => hp⟩
      · exact ⟨⟨0, 0, 0, 0⟩, fun h => absurd h hil⟩
    obtain ⟨F, hF⟩ := Classical.axiomOfChoice hex
    refine ⟨(List.range len).map F, ⟨some x, m, by simp, ?_⟩, by simp; unfold maxLen at hc; omega⟩
    intro i q hq
    have hil : i < len := by
      have := (List.getElem?_eq_some_iff.1 hq).1
      simpa using this
    rw [List.getElem?_map, List.getElem?_range hil] at hq
    simp only [Option.map_some, Option.some.injEq] at hq
    have h1 := hF i hil
    rw [hq] at h1
    refine ⟨x, rfl, ?_, h1⟩
    have := World.block_lt_of_cell? W _ h1.1
    rwa [add_block] at this
#print axioms acts_of
end Go.Proofs.Ytnogajnoghjmhaa
