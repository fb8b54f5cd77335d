/- What a row's arguments give to the walks: transactions told in short, rows, a geometry. -/
import Derived.Test.YtlhhbkpocpnebaaP5
import Derived.ProofKit
import Derived.OpenShut
import Derived.ChangeOld
import Derived.Below
import Derived.LaidLaws
import Derived.ChangeSlices
import Derived.Deep.DeepHandedRow
import Derived.Deep.Slices
import Derived.Lib.SmallJoins
set_option linter.unusedVariables false
namespace Go.Proofs.Ytlhhbkpocpnebaa
open Go.ChangeShapes Go.WideShapes Go.ChangeAt Go.RowKit Go.Deep Go.Joins

theorem i64_of {a : Int} (w : (Lit.int .i64 a).wf = true) : IntOk a := by
  unfold IntOk
  simpa [Lit.wf, IntKind.min, IntKind.max, IntKind.signed, IntKind.bits] using w
theorem u32_of {a : Int} (w : (Lit.int .u32 a).wf = true) : 0 ≤ a ∧ a < 4294967296 := by
  simp [Lit.wf, IntKind.min, IntKind.max, IntKind.signed, IntKind.bits] at w
  omega
theorem u8_of {a : Int} (w : (Lit.int .u8 a).wf = true) : 0 ≤ a ∧ a < 256 := by
  simp [Lit.wf, IntKind.min, IntKind.max, IntKind.signed, IntKind.bits] at w
  omega
theorem add_zero' (x : Addr) : x.add 0 = x := by unfold Addr.add; split <;> simp_all
section
variable {H : Type} {enc : TypeId × Value → H} {W : World}
set_option maxRecDepth 100000 in
theorem rowAt_of {x : Addr} {cs : List Value} {n : Nat} {z : DataW H × List MemPlace} (hc : W.cells? 0 x 3 = some cs)
    (h : DataW.trod enc Try.prog W 0 (fun _ => true) true n 32 cs = some z) : ∃ p, RowAt W x p := by
  obtain ⟨_, hl, hcell⟩ := World.cells?_some hc
  obtain ⟨y0, y1, y2, m, _, _, t0, t1, t2⟩ := trod_struct3 Try.underlying32 h
  match cs, hl with
  | [v0, v1, v2], _ =>
    rw [show Try.prog.cellsOf 3 = 1 by kernel_rfl] at t0
    rw [show Try.prog.cellsOf 5 = 1 by kernel_rfl] at t1
    rw [show Try.prog.cellsOf 4 = 1 by kernel_rfl] at t2
    simp only [List.drop_succ_cons, List.drop_zero, List.take_succ_cons, List.take_zero] at t0 t1 t2
    have c0 := hcell 0 (by omega)
    have c1 := hcell 1 (by omega)
    have c2 := hcell 2 (by omega)
    rw [add_zero'] at c0
    simp only [List.getElem?_cons_zero, List.getElem?_cons_succ] at c0 c1 c2
    obtain ⟨z0, e0, _, w0⟩ := DataW.trod_int Try.underlying3 t0
    obtain ⟨z1, e1, _, w1⟩ := DataW.trod_int Try.underlying5 t1
    obtain ⟨z2, e2, _⟩ := DataW.trod_bool Try.underlying4 t2
    simp only [List.cons.injEq, and_true] at e0 e1 e2
    subst e0 e1 e2
    have b1 := u8_of w1
    refine ⟨⟨z0, z1.toNat, z2⟩, c0, ?_, c2, i64_of w0, by show z1.toNat < _; omega⟩
    rw [c1]
    show _ = some (Value.int .u8 ((z1.toNat : Nat) : Int))
    rw [show ((z1.toNat : Nat) : Int) = z1 by omega]
set_option maxRecDepth 100000 in
theorem rowsV_of {fuel : Nat} {cs : List Value} {z : DataW H × List MemPlace}
    (hf : DataW.trod enc Try.prog W 0 (fun _ => true) true fuel 23 cs = some z) : ∃ a l cap, cs = [.slice a (List.length l) cap] ∧ RowsIn W (.slice a l.length cap) l ∧ l.length ≤ 9223372036854775807 := by
  rcases open_slice Try.underlying23 hf with ⟨hcs, _⟩ | ⟨x, len, c, m, n, D, Pl, hcs, _, hl, hc, hm, _, hi⟩
  · exact ⟨none, [], 0, hcs, ⟨none, 0, rfl, fun i p h => by simp at h⟩, by simp⟩
  · simp only [if_true] at hm
    subst hm
    rw [show Try.prog.cellsOf 32 = 3 by kernel_rfl] at hi
    have hex : ∀ i, ∃ p : PR, i < len → RowAt W (x.add (i * 3)) p := by
      intro i
      by_cases hil : i < len
      · obtain ⟨cs', hc', ht'⟩ := hi i (by omega)
        obtain ⟨p, hp⟩ := rowAt_of hc' ht'
        exact ⟨p, fun _ => hp⟩
      · exact ⟨⟨0, 0, false⟩, fun h => absurd h hil⟩
    obtain ⟨F, hF⟩ := Classical.axiomOfChoice hex
    refine ⟨some x, (List.range len).map F, m, by simpa using hcs, ⟨some x, m, rfl, ?_⟩, by simp; unfold maxLen at hc; omega⟩
    intro i q hq
    have hil : i < len := by
      have := (List.getElem?_eq_some_iff.1 hq).1
      simpa using this
    rw [List.getElem?_map, List.getElem?_range hil] at hq
    simp only [Option.map_some, Option.some.injEq] at hq
    have h1 := hF i hil
    rw [hq] at h1
    refine ⟨x, rfl, ?_, h1⟩
    have := World.block_lt_of_cell? W _ h1.1
    rwa [add_block'] at this
theorem intsV_of {fuel : Nat} {cs : List Value} {z : DataW H × List MemPlace}
    (hf : DataW.trod enc Try.prog W 0 (fun _ => true) true fuel 53 cs = some z) : ∃ a l cap, cs = [.slice a (List.length l) cap] ∧ IntsIn W (.slice a l.length cap) l ∧ l.length ≤ 9223372036854775807 := by
  rcases open_ints Try.underlying53 Try.underlying3 (by kernel_rfl) hf with ⟨hcs, _⟩ | ⟨x, len, c, zs, hcs, _, hl, hc, hzl, _, hi, hw⟩
  · exact ⟨none, [], 0, hcs, ⟨none, 0, rfl, fun _ => rfl, fun i p h => by simp at h⟩, by simp⟩
  · simp only [if_true] at hzl
    refine ⟨some x, (List.range len).map fun i => zs.getD i 0, c, by simpa using hcs, ⟨some x, c, rfl, (fun h => nomatch h), ?_⟩, by simp; unfold maxLen at hc; omega⟩
    intro i q hq
    have hil : i < len := by
      have := (List.getElem?_eq_some_iff.1 hq).1
      simpa using this
    rw [List.getElem?_map, List.getElem?_range hil] at hq
    simp only [Option.map_some, Option.some.injEq] at hq
    have c0 := hi i (by omega)
    have hm : zs.getD i 0 ∈ zs := by
      rw [List.getD_eq_getElem?_getD, List.getElem?_eq_getElem (by omega)]
      exact List.getElem_mem _
    have b := i64_of (hw _ hm)
    rw [hq] at c0 b
    refine ⟨x, rfl, ?_, c0, b⟩
    have := World.block_lt_of_cell? W _ c0
    rwa [add_block'] at this
set_option maxRecDepth 100000 in
theorem tshAt_of {x : Addr} {cs : List Value} {n : Nat} {z : DataW H × List MemPlace} (hc : W.cells? 0 x 4 = some cs)
    (h : DataW.trod enc Try.prog W 0 (fun _ => true) true n 60 cs = some z) : ∃ p, TShAt W x p := by
  obtain ⟨_, hl, hcell⟩ := World.cells?_some hc
  obtain ⟨y0, y1, y2, y3, m, _, _, t0, t1, t2, t3⟩ := trod_struct4 Try.underlying60 h
  match cs, hl with
  | [v0, v1, v2, v3], _ =>
    rw [show Try.prog.cellsOf 3 = 1 by kernel_rfl] at t0
    rw [show Try.prog.cellsOf 23 = 1 by kernel_rfl] at t1
    rw [show Try.prog.cellsOf 53 = 1 by kernel_rfl] at t2
    simp only [List.drop_succ_cons, List.drop_zero, List.take_succ_cons, List.take_zero] at t0 t1 t2 t3
    have c0 := hcell 0 (by omega)
    have c1 := hcell 1 (by omega)
    have c2 := hcell 2 (by omega)
    have c3 := hcell 3 (by omega)
    rw [add_zero'] at c0
    simp only [List.getElem?_cons_zero, List.getElem?_cons_succ] at c0 c1 c2 c3
    obtain ⟨a1, l1, k1, e1, h1, b1⟩ := rowsV_of t1
    obtain ⟨a2, l2, k2, e2, h2, b2⟩ := intsV_of t2
    simp only [List.cons.injEq, and_true] at e1 e2
    subst e1 e2
    exact ⟨⟨l1, l2⟩, v0, v3, a1, k1, a2, k2, c0, c1, c2, c3, h1, h2, b1, b2⟩
set_option maxRecDepth 100000 in
theorem tshs_of {a : Option Addr} {len cap : Nat} {d : DataW H} {p : List MemPlace}
    (h : DataW.Trod enc Try.prog W 0 (fun _ => true) true 22 (.slice a len cap) d p) : ∃ l, TShIn W (.slice a len cap) l ∧ l.length ≤ 9223372036854775807 := by
  obtain ⟨fuel, hf⟩ := h
  rcases open_slice Try.underlying22 hf with ⟨hcs, _⟩ | ⟨x, l, c, m, n, D, Pl, hcs, _, hl, hc, hm, _, hi⟩
  · simp [Value.cells] at hcs
    obtain ⟨rfl, rfl, rfl⟩ := hcs
    exact ⟨[], ⟨none, 0, rfl, fun i p h => by simp at h⟩, by simp⟩
  · simp [Value.cells] at hcs
    obtain ⟨rfl, rfl, rfl⟩ := hcs
    simp only [if_true] at hm
    subst hm
    rw [show Try.prog.cellsOf 60 = 4 by kernel_rfl] at hi
    have hex : ∀ i, ∃ p : TSh, i < len → TShAt W (x.add (i * 4)) p := by
      intro i
      by_cases hil : i < len
      · obtain ⟨cs', hc', ht'⟩ := hi i (by omega)
        obtain ⟨p, hp⟩ := tshAt_of hc' ht'
        exact ⟨p, fun _ => hp⟩
      · exact ⟨⟨[], []⟩, fun h => absurd h hil⟩
    obtain ⟨F, hF⟩ := Classical.axiomOfChoice hex
    refine ⟨(List.range len).map F, ⟨some x, m, by simp, ?_⟩, by simp; unfold maxLen at hc; omega⟩
    intro i q hq
    have hil : i < len := by
      have := (List.getElem?_eq_some_iff.1 hq).1
      simpa using this
    rw [List.getElem?_map, List.getElem?_range hil] at hq
    simp only [Option.map_some, Option.some.injEq] at hq
    have h1 := hF i hil
    rw [hq] at h1
    refine ⟨x, rfl, ?_, h1⟩
    obtain ⟨m0, s, a1, c1, a2, c2, h0, _⟩ := h1
    have := World.block_lt_of_cell? W _ h0
    rwa [add_block'] at this
theorem rows_of {a : Option Addr} {len cap : Nat} {d : DataW H} {p : List MemPlace}
    (h : DataW.Trod enc Try.prog W 0 (fun _ => true) true 23 (.slice a len cap) d p) : ∃ l, RowsIn W (.slice a len cap) l ∧ l.length ≤ 9223372036854775807 := by
  obtain ⟨fuel, hf⟩ := h
  obtain ⟨a', l, c', e, h1, h2⟩ := rowsV_of hf
  simp [Value.cells] at e
  obtain ⟨rfl, rfl, rfl⟩ := e
  exact ⟨l, h1, h2⟩
set_option maxRecDepth 100000 in
theorem geo_of {r : Reach} {b0 : Nat} {v : Value} {d : DataW H} {p : List MemPlace} (hv : Value.okWide Try.prog W r b0 43 v)
    (h : DataW.Trod enc Try.prog W 0 (fun _ => true) true 43 v d p) : ∃ g0 g1 g2 g3 : Int, v = .agg #[.int .i64 g0, .int .i64 g1, .int .i64 g2, .int .i64 g3] ∧ IntOk g0 ∧ IntOk g1 ∧ IntOk g2 ∧ IntOk g3 := by
  obtain ⟨v0, v1, v2, v3, y0, y1, y2, y3, n, rfl, _, _, h0, h1, h2, h3⟩ := open_agg4 Try.underlying43 (by kernel_rfl) (by kernel_rfl) hv h
  obtain ⟨a, e0, _, w0⟩ := DataW.trod_int Try.underlying3 h0
  obtain ⟨b, e1, _, w1⟩ := DataW.trod_int Try.underlying3 h1
  obtain ⟨c, e2, _, w2⟩ := DataW.trod_int Try.underlying3 h2
  obtain ⟨d, e3, _, w3⟩ := DataW.trod_int Try.underlying3 h3
  simp only [List.cons.injEq, and_true] at e0 e1 e2 e3
  subst e0 e1 e2 e3
  exact ⟨a, b, c, d, rfl, i64_of w0, i64_of w1, i64_of w2, i64_of w3⟩
set_option maxRecDepth 100000 in
theorem tsh_of {r : Reach} {b0 : Nat} {v : Value} {d : DataW H} {p : List MemPlace} (hv : Value.okWide Try.prog W r b0 60 v)
    (h : DataW.Trod enc Try.prog W 0 (fun _ => true) true 60 v d p) : ∃ (m s : Int) (t : TSh) (a1 : Option Addr) (c1 : Nat) (a2 : Option Addr) (c2 : Nat), v = .agg #[.int .i64 m, .slice a1 t.rows.length c1, .slice a2 t.rs.length c2, .int .i64 s] ∧ RowsIn W (.slice a1 t.rows.length c1) t.rows ∧ IntsIn W (.slice a2 t.rs.length c2) t.rs ∧ t.rows.length ≤ 9223372036854775807 ∧ t.rs.length ≤ 9223372036854775807 := by
  obtain ⟨v0, v1, v2, v3, y0, y1, y2, y3, n, rfl, _, _, h0, h1, h2, h3⟩ := open_agg4 Try.underlying60 (by kernel_rfl) (by kernel_rfl) hv h
  obtain ⟨a, e0, _, w0⟩ := DataW.trod_int Try.underlying3 h0
  obtain ⟨a1, l1, k1, e1, g1, b1⟩ := rowsV_of h1
  obtain ⟨a2, l2, k2, e2, g2, b2⟩ := intsV_of h2
  obtain ⟨d, e3, _, w3⟩ := DataW.trod_int Try.underlying3 h3
  simp only [List.cons.injEq, and_true] at e0 e1 e2 e3
  subst e0 e1 e2 e3
  exact ⟨a, d, ⟨l1, l2⟩, a1, k1, a2, k2, rfl, g1, g2, b1, b2⟩
end
#print axioms tsh_of
end Go.Proofs.Ytlhhbkpocpnebaa
