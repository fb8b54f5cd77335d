/- What a row's arguments give to the walks: fills, actions. -/
import Derived.Test.YtieknecbheeekaaK14
import Derived.ProofKit
import Derived.OpenShut
import Derived.ChangeOld
import Derived.Below
import Derived.LaidLaws
import Derived.ChangeSlices
import Derived.Deep.DeepHandedRow
import Derived.Deep.Slices
import Derived.Deep.Strs
import Derived.Lib.SmallJoins
set_option linter.unusedVariables false
namespace Go.Proofs.Ytieknecbheeekaa
open Go.ChangeShapes Go.WideShapes Go.ChangeAt Go.RowKit Go.Deep Go.Joins

theorem i64_of {a : Int} (w : (Lit.int .i64 a).wf = true) : IntOk a := by
  unfold IntOk
  simpa [Lit.wf, IntKind.min, IntKind.max, IntKind.signed, IntKind.bits] using w
theorem u32_of {a : Int} (w : (Lit.int .u32 a).wf = true) : 0 ≤ a ∧ a < 4294967296 := by
  simp [Lit.wf, IntKind.min, IntKind.max, IntKind.signed, IntKind.bits] at w
  omega
theorem u8_of {a : Int} (w : (Lit.int .u8 a).wf = true) : 0 ≤ a ∧ a < 256 := by
  simp [Lit.wf, IntKind.min, IntKind.max, IntKind.signed, IntKind.bits] at w
  omega
theorem add_zero' (x : Addr) : x.add 0 = x := by unfold Addr.add; split <;> simp_all
section
variable {H : Type} {enc : TypeId × Value → H} {W : World}
set_option maxRecDepth 100000 in
theorem fillAt_of {x : Addr} {cs : List Value} {n : Nat} {z : DataW H × List MemPlace} (hc : W.cells? 0 x 2 = some cs)
    (h : DataW.trod enc Try.prog W 0 (fun _ => true) true n 42 cs = some z) : ∃ p : PP, W.cell? x = some (.int .i64 p.1) ∧ W.cell? (x.add 1) = some (.int .u32 (p.2 : Int)) ∧ p.2 < 4294967296 := by
  obtain ⟨_, hl, hcell⟩ := World.cells?_some hc
  obtain ⟨y0, y1, m, _, _, t0, t1⟩ := trod_struct2 Try.underlying42 h
  match cs, hl with
  | [v0, v1], _ =>
    rw [show Try.prog.cellsOf 3 = 1 by kernel_rfl] at t0
    rw [show Try.prog.cellsOf 40 = 1 by kernel_rfl] at t1
    simp only [List.drop_succ_cons, List.drop_zero, List.take_succ_cons, List.take_zero] at t0 t1
    have c0 := hcell 0 (by omega)
    have c1 := hcell 1 (by omega)
    rw [add_zero'] at c0
    simp only [List.getElem?_cons_zero, List.getElem?_cons_succ] at c0 c1
    obtain ⟨z0, e0, _, w0⟩ := DataW.trod_int Try.underlying3 t0
    obtain ⟨z1, e1, _, w1⟩ := DataW.trod_int Try.underlying40 t1
    simp only [List.cons.injEq, and_true] at e0 e1
    subst e0 e1
    have b1 := u32_of w1
    exact ⟨(z0, z1.toNat), c0, by rw [c1]; show _ = some (Value.int .u32 ((z1.toNat : Nat) : Int)); rw [show ((z1.toNat : Nat) : Int) = z1 by omega], by show z1.toNat < _; omega⟩
set_option maxRecDepth 100000 in
theorem fills_of {a : Option Addr} {len cap : Nat} {d : DataW H} {p : List MemPlace}
    (h : DataW.Trod enc Try.prog W 0 (fun _ => true) true 22 (.slice a len cap) d p) : ∃ l, FillsIn W (.slice a len cap) l ∧ l.length ≤ 9223372036854775807 := by
  obtain ⟨fuel, hf⟩ := h
  rcases open_slice Try.underlying22 hf with ⟨hcs, _⟩ | ⟨x, l, c, m, n, D, Pl, hcs, _, hl, hc, hm, _, hi⟩
  · simp [Value.cells] at hcs
    obtain ⟨rfl, rfl, rfl⟩ := hcs
    exact ⟨[], ⟨none, 0, rfl, fun i p h => by simp at h⟩, by simp⟩
  · simp [Value.cells] at hcs
    obtain ⟨rfl, rfl, rfl⟩ := hcs
    simp only [if_true] at hm
    subst hm
    rw [show Try.prog.cellsOf 42 = 2 by kernel_rfl] at hi
    have hex : ∀ i, ∃ p : PP, i < len → W.cell? (x.add (i * 2)) = some (.int .i64 p.1) ∧ W.cell? ((x.add (i * 2)).add 1) = some (.int .u32 (p.2 : Int)) ∧ p.2 < 4294967296 := by
      intro i
      by_cases hil : i < len
      · obtain ⟨cs', hc', ht'⟩ := hi i (by omega)
        obtain ⟨p, hp⟩ := fillAt_of hc' ht'
        exact ⟨p, fun _ => hp⟩
      · exact ⟨(0, 0), fun h => absurd h hil⟩
    obtain ⟨F, hF⟩ := Classical.axiomOfChoice hex
    refine ⟨(List.range len).map F, ⟨some x, m, by simp, ?_⟩, by simp; unfold maxLen at hc; omega⟩
    intro i q hq
    have hil : i < len := by
      have := (List.getElem?_eq_some_iff.1 hq).1
      simpa using this
    rw [List.getElem?_map, List.getElem?_range hil] at hq
    simp only [Option.map_some, Option.some.injEq] at hq
    have h1 := hF i hil
    rw [hq] at h1
    refine ⟨x, rfl, ?_, h1⟩
    have := World.block_lt_of_cell? W _ h1.1
    rwa [add_block] at this
/-- a block's bytes, as they are read -/
theorem blk_of {n : Nat} {cs : List Value} {z : DataW H × List MemPlace} (h : DataW.trod enc Try.prog W 0 (fun _ => true) true n 44 cs = some z) : ∃ x : Blk, cs = bc x ∧ x.length = 256 ∧ ∀ b ∈ x, b < 256 := by
  obtain ⟨xs, m, _, _, hl, hxl, hi⟩ := DataW.trod_array Try.underlying44 h
  rw [show Try.prog.cellsOf 44 = 256 by kernel_rfl] at hl
  rw [show Try.prog.cellsOf 5 = 1 by kernel_rfl] at hi
  have hex : ∀ i, ∃ b : Nat, i < 256 → cs[i]? = some (.int .u8 (b : Int)) ∧ b < 256 := by
    intro i
    by_cases hil : i < 256
    · have h1 := hi i hil
      rw [List.getElem?_eq_getElem (by omega)] at h1
      obtain ⟨z0, e0, _, w0⟩ := DataW.trod_int Try.underlying5 h1
      have hb := u8_of w0
      refine ⟨z0.toNat, fun _ => ⟨?_, by omega⟩⟩
      have h2 : ((cs.drop (i * 1)).take 1)[0]? = some (.int .u8 z0) := by rw [e0]; rfl
      rw [List.getElem?_take_of_lt (by omega), List.getElem?_drop, Nat.mul_one, Nat.add_zero] at h2
      rw [h2, show ((z0.toNat : Nat) : Int) = z0 by omega]
    · exact ⟨0, fun h => absurd h hil⟩
  obtain ⟨F, hF⟩ := Classical.axiomOfChoice hex
  refine ⟨(List.range 256).map F, ?_, by rw [List.length_map, List.length_range], ?_⟩
  · apply List.ext_getElem?
    intro i
    by_cases hil : i < 256
    · rw [(hF i hil).1]
      unfold bc
      rw [List.getElem?_map, List.getElem?_map, List.getElem?_range hil]
      rfl
    · rw [List.getElem?_eq_none (by omega), List.getElem?_eq_none (by rw [bc_length, List.length_map, List.length_range]; omega)]
  · intro b hb
    obtain ⟨i, hi', rfl⟩ := List.mem_map.1 hb
    exact (hF i (List.mem_range.1 hi')).2
theorem cellsIn_add {x : Addr} {n : Nat} {cs : List Value} (hc : W.cells? 0 x n = some cs) : cs.length = n ∧ ∀ j u, cs[j]? = some u → W.cell? (x.add j) = some u := by
  obtain ⟨_, hl, hcell⟩ := World.cells?_some hc
  refine ⟨hl, fun j u hj => ?_⟩
  have hjl : j < n := by rw [← hl]; exact (List.getElem?_eq_some_iff.1 hj).1
  rw [hcell j hjl, hj]
set_option maxRecDepth 100000 in
theorem actAt_of {x : Addr} {cs : List Value} {n : Nat} {z : DataW H × List MemPlace} (hc : W.cells? 0 x 258 = some cs)
    (h : DataW.trod enc Try.prog W 0 (fun _ => true) true n 53 cs = some z) : ∃ p : AT, cs = ac p ∧ p.x.length = 256 := by
  obtain ⟨hl, hcell⟩ := cellsIn_add hc
  obtain ⟨y0, y1, y2, m, _, _, t0, t1, t2⟩ := trod_struct3 Try.underlying53 h
  rw [show Try.prog.cellsOf 5 = 1 by kernel_rfl] at t0
  rw [show Try.prog.cellsOf 3 = 1 by kernel_rfl] at t1
  rw [show Try.prog.cellsOf 44 = 256 by kernel_rfl] at t2
  match cs, hl with
  | v0 :: v1 :: r, hl =>
    simp only [List.length_cons] at hl
    simp only [List.drop_succ_cons, List.drop_zero, List.take_succ_cons, List.take_zero] at t0 t1
    replace t2 : DataW.trod enc Try.prog W 0 (fun _ => true) true m 44 r = some y2 := by
      have : (List.drop 2 (v0 :: v1 :: r)).take 256 = r := by
        show r.take 256 = r
        exact List.take_of_length_le (by omega)
      rw [← this]; exact t2
    obtain ⟨z0, e0, _, w0⟩ := DataW.trod_int Try.underlying5 t0
    obtain ⟨z1, e1, _, w1⟩ := DataW.trod_int Try.underlying3 t1
    obtain ⟨b, e2, hb, _⟩ := blk_of t2
    simp only [List.cons.injEq, and_true] at e0 e1
    subst e0 e1 e2
    exact ⟨⟨z0, z1, b⟩, rfl, hb⟩
set_option maxRecDepth 100000 in
theorem acts_of {a : Option Addr} {len cap : Nat} {d : DataW H} {p : List MemPlace}
    (h : DataW.Trod enc Try.prog W 0 (fun _ => true) true 23 (.slice a len cap) d p) : ∃ l, ActsIn W (.slice a len cap) l ∧ l.length ≤ 9223372036854775807 := by
  obtain ⟨fuel, hf⟩ := h
  rcases open_slice Try.underlying23 hf with ⟨hcs, _⟩ | ⟨x, l, c, m, n, D, Pl, hcs, _, hl, hc, hm, _, hi⟩
  · simp [Value.cells] at hcs
    obtain ⟨rfl, rfl, rfl⟩ := hcs
    exact ⟨[], ⟨none, 0, rfl, fun _ => rfl, fun i p h => by simp at h⟩, by simp⟩
  · simp [Value.cells] at hcs
    obtain ⟨rfl, rfl, rfl⟩ := hcs
    simp only [if_true] at hm
    subst hm
    rw [show Try.prog.cellsOf 53 = 258 by kernel_rfl] at hi
    have hex : ∀ i, ∃ p : AT, i < len → p.x.length = 256 ∧ ∀ j u, (ac p)[j]? = some u → W.cell? ((x.add (i * 258)).add j) = some u := by
      intro i
      by_cases hil : i < len
      · obtain ⟨cs', hc', ht'⟩ := hi i (by omega)
        obtain ⟨p, hp, hx⟩ := actAt_of hc' ht'
        exact ⟨p, fun _ => ⟨hx, fun j u hj => (cellsIn_add hc').2 j u (by rw [hp]; exact hj)⟩⟩
      · exact ⟨zeroA, fun h => absurd h hil⟩
    obtain ⟨F, hF⟩ := Classical.axiomOfChoice hex
    refine ⟨(List.range len).map F, ⟨some x, m, by simp, fun h => by simp at h, ?_⟩, by simp; unfold maxLen at hc; omega⟩
    intro i q hq
    have hil : i < len := by
      have := (List.getElem?_eq_some_iff.1 hq).1
      simpa using this
    rw [List.getElem?_map, List.getElem?_range hil] at hq
    simp only [Option.map_some, Option.some.injEq] at hq
    have h1 := hF i hil
    rw [hq] at h1
    refine ⟨h1.1, x, rfl, ?_, h1.2⟩
    have := World.block_lt_of_cell? W _ (h1.2 0 _ rfl)
    rwa [add_block, add_block] at this
end
#print axioms acts_of
end Go.Proofs.Ytieknecbheeekaa
