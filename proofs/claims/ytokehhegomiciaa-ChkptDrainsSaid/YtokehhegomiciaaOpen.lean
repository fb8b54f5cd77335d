/- What a row's arguments give to the walks: calls with their transactions; a geometry. -/
import Derived.Test.YtokehhegomiciaaH18
import Derived.ProofKit
import Derived.OpenShut
import Derived.ChangeOld
import Derived.Below
import Derived.LaidLaws
import Derived.ChangeSlices
import Derived.Deep.DeepHandedRow
import Derived.Deep.Slices
import Derived.Lib.SmallJoins
set_option linter.unusedVariables false
namespace Go.Proofs.Ytokehhegomiciaa
open Go.ChangeShapes Go.WideShapes Go.ChangeAt Go.RowKit Go.Deep Go.Joins

theorem nat_u32 {a : Int} (w : (Lit.int .u32 a).wf = true) : ∃ n : Nat, a = (n : Int) ∧ n < 4294967296 := ⟨a.toNat, by have := w; simp [Lit.wf, IntKind.min, IntKind.max, IntKind.signed, IntKind.bits] at this; omega, by have := w; simp [Lit.wf, IntKind.min, IntKind.max, IntKind.signed, IntKind.bits] at this; omega⟩
theorem i64_of {a : Int} (w : (Lit.int .i64 a).wf = true) : IntOk a := by
  unfold IntOk
  simpa [Lit.wf, IntKind.min, IntKind.max, IntKind.signed, IntKind.bits] using w
theorem u32_of {a : Int} (w : (Lit.int .u32 a).wf = true) : 0 ≤ a ∧ a < 4294967296 := by
  simp [Lit.wf, IntKind.min, IntKind.max, IntKind.signed, IntKind.bits] at w
  omega
theorem u8_of {a : Int} (w : (Lit.int .u8 a).wf = true) : 0 ≤ a ∧ a < 256 := by
  simp [Lit.wf, IntKind.min, IntKind.max, IntKind.signed, IntKind.bits] at w
  omega
theorem add_zero' (x : Addr) : x.add 0 = x := by unfold Addr.add; split <;> simp_all
section
variable {H : Type} {enc : TypeId × Value → H} {W : World}
/-- a block's bytes, as they are read -/
theorem blk_of {n : Nat} {cs : List Value} {z : DataW H × List MemPlace} (h : DataW.trod enc Try.prog W 0 (fun _ => true) true n 33 cs = some z) : ∃ x : Blk, cs = bc x ∧ x.length = 256 ∧ ∀ b ∈ x, b < 256 := by
  obtain ⟨xs, m, _, _, hl, hxl, hi⟩ := DataW.trod_array Try.underlying33 h
  rw [show Try.prog.cellsOf 33 = 256 by kernel_rfl] at hl
  rw [show Try.prog.cellsOf 5 = 1 by kernel_rfl] at hi
  have hex : ∀ i, ∃ b : Nat, i < 256 → cs[i]? = some (.int .u8 (b : Int)) ∧ b < 256 := by
    intro i
    by_cases hil : i < 256
    · have h1 := hi i hil
      rw [List.getElem?_eq_getElem (by omega)] at h1
      obtain ⟨z0, e0, _, w0⟩ := DataW.trod_int Try.underlying5 h1
      have hb := u8_of w0
      refine ⟨z0.toNat, fun _ => ⟨?_, by omega⟩⟩
      have h2 : ((cs.drop (i * 1)).take 1)[0]? = some (.int .u8 z0) := by rw [e0]; rfl
      rw [List.getElem?_take_of_lt (by omega), List.getElem?_drop, Nat.mul_one, Nat.add_zero] at h2
      rw [h2, show ((z0.toNat : Nat) : Int) = z0 by omega]
    · exact ⟨0, fun h => absurd h hil⟩
  obtain ⟨F, hF⟩ := Classical.axiomOfChoice hex
  refine ⟨(List.range 256).map F, ?_, by rw [List.length_map, List.length_range], ?_⟩
  · apply List.ext_getElem?
    intro i
    by_cases hil : i < 256
    · rw [(hF i hil).1]
      unfold bc
      rw [List.getElem?_map, List.getElem?_map, List.getElem?_range hil]
      rfl
    · rw [List.getElem?_eq_none (by omega), List.getElem?_eq_none (by rw [bc_length, List.length_map, List.length_range]; omega)]
  · intro b hb
    obtain ⟨i, hi', rfl⟩ := List.mem_map.1 hb
    exact (hF i (List.mem_range.1 hi')).2
theorem cellsIn_add {x : Addr} {n : Nat} {cs : List Value} (hc : W.cells? 0 x n = some cs) : cs.length = n ∧ ∀ j u, cs[j]? = some u → W.cell? (x.add j) = some u := by
  obtain ⟨_, hl, hcell⟩ := World.cells?_some hc
  refine ⟨hl, fun j u hj => ?_⟩
  have hjl : j < n := by rw [← hl]; exact (List.getElem?_eq_some_iff.1 hj).1
  rw [hcell j hjl, hj]
/-- elements that came in one behind the other -/
theorem see_from {x : Addr} {len sz cap : Nat} (F : Nat → List Value) (hsz : 0 < sz) (h : ∀ i, i < len → (F i).length = sz ∧ ∀ j u, (F i)[j]? = some u → W.cell? ((x.add (i * sz)).add j) = some u) : See W sz (.slice (some x) len cap) ((List.range len).map F) := by
  refine ⟨some x, cap, by simp, fun k c hk => ?_⟩
  have hkl : k < len := by simpa using (List.getElem?_eq_some_iff.1 hk).1
  rw [List.getElem?_map, List.getElem?_range hkl] at hk
  cases hk
  obtain ⟨h0, h1⟩ := h 0 (by omega)
  have h2 := h1 0 _ (List.getElem?_eq_getElem (by omega))
  rw [Nat.zero_mul, add_zero', add_zero'] at h2
  obtain ⟨b, o, s⟩ := x
  cases s with
  | some s =>
    unfold World.cell? at h2
    split at h2 <;> simp at h2
  | none =>
    refine ⟨b, o, rfl, World.block_lt_of_cell? W _ h2, fun j u hj => ?_⟩
    have := (h k hkl).2 j u hj
    rwa [Addr.add_mid, Addr.add_mid] at this
set_option maxRecDepth 100000 in
theorem copy_of {n : Nat} {cs : List Value} {z : DataW H × List MemPlace} (hl : cs.length = 257) (h : DataW.trod enc Try.prog W 0 (fun _ => true) true n 35 cs = some z) : ∃ c : Cp, cs = ccell c ∧ CpOk c := by
  obtain ⟨y0, y1, m, _, _, t0, t1⟩ := trod_struct2 Try.underlying35 h
  rw [show Try.prog.cellsOf 3 = 1 by kernel_rfl] at t0
  rw [show Try.prog.cellsOf 33 = 256 by kernel_rfl] at t1
  match cs, hl with
  | v0 :: r, hl =>
    simp only [List.length_cons] at hl
    simp only [List.drop_zero, List.take_succ_cons, List.take_zero] at t0
    replace t1 : DataW.trod enc Try.prog W 0 (fun _ => true) true m 33 r = some y1 := by
      have : (List.drop 1 (v0 :: r)).take 256 = r := by
        show r.take 256 = r
        exact List.take_of_length_le (by omega)
      rw [← this]; exact t1
    obtain ⟨z0, e0, _, w0⟩ := DataW.trod_int Try.underlying3 t0
    obtain ⟨b, e2, hb, _⟩ := blk_of t1
    simp only [List.cons.injEq, and_true] at e0
    subst e0 e2
    exact ⟨(z0, b), rfl, i64_of w0, hb⟩
set_option maxRecDepth 100000 in
theorem copiesV_of {fuel : Nat} {cs : List Value} {z : DataW H × List MemPlace}
    (hf : DataW.trod enc Try.prog W 0 (fun _ => true) true fuel 36 cs = some z) : ∃ a l cap, cs = [.slice a (List.length l) cap] ∧ CSee W (.slice a l.length cap) l ∧ l.length ≤ 9223372036854775807 := by
  rcases open_slice Try.underlying36 hf with ⟨hcs, _⟩ | ⟨x, len, c, m, n, D, Pl, hcs, _, hl, hc, hm, _, hi⟩
  · exact ⟨none, [], 0, hcs, ⟨see_none _ _, by simp⟩, by simp⟩
  · simp only [if_true] at hm
    subst hm
    rw [show Try.prog.cellsOf 35 = 257 by kernel_rfl] at hi
    have hex : ∀ i, ∃ p : Cp, i < len → CpOk p ∧ ∀ j u, (ccell p)[j]? = some u → W.cell? ((x.add (i * 257)).add j) = some u := by
      intro i
      by_cases hil : i < len
      · obtain ⟨cs', hc', ht'⟩ := hi i (by omega)
        obtain ⟨hl', hcell⟩ := cellsIn_add hc'
        obtain ⟨p, rfl, hp⟩ := copy_of hl' ht'
        exact ⟨p, fun _ => ⟨hp, hcell⟩⟩
      · exact ⟨zeroC, fun h => absurd h hil⟩
    obtain ⟨F, hF⟩ := Classical.axiomOfChoice hex
    refine ⟨some x, (List.range len).map F, m, by simpa using hcs, ⟨?_, ?_⟩, by simp; unfold maxLen at hc; omega⟩
    · have := see_from (W := W) (x := x) (len := len) (sz := 257) (cap := m) (fun i => ccell (F i)) (by omega) (fun i hi => ⟨ccell_length (hF i hi).1.2, (hF i hi).2⟩)
      rw [List.map_map, List.length_map, List.length_range]
      exact this
    · intro c hc2
      obtain ⟨i, hi2, rfl⟩ := List.mem_map.1 hc2
      exact (hF i (List.mem_range.1 hi2)).1
theorem intsV_of {fuel : Nat} {cs : List Value} {z : DataW H × List MemPlace}
    (hf : DataW.trod enc Try.prog W 0 (fun _ => true) true fuel 37 cs = some z) : ∃ a l cap, cs = [.slice a (List.length l) cap] ∧ ISee W (.slice a l.length cap) l ∧ l.length ≤ 9223372036854775807 := by
  rcases open_ints Try.underlying37 Try.underlying3 (by kernel_rfl) hf with ⟨hcs, _⟩ | ⟨x, len, c, zs, hcs, _, hl, hc, hzl, _, hi, hw⟩
  · exact ⟨none, [], 0, hcs, ⟨see_none _ _, by simp⟩, by simp⟩
  · simp only [if_true] at hzl
    have hF : ∀ i, i < len → IntOk (zs.getD i 0) ∧ W.cell? (x.add i) = some (.int .i64 (zs.getD i 0)) := by
      intro i hil
      have hm : zs.getD i 0 ∈ zs := by
        rw [List.getD_eq_getElem?_getD, List.getElem?_eq_getElem (by omega)]
        exact List.getElem_mem _
      exact ⟨i64_of (hw _ hm), hi i (by omega)⟩
    refine ⟨some x, (List.range len).map fun i => zs.getD i 0, c, by simpa using hcs, ⟨?_, ?_⟩, by simp; unfold maxLen at hc; omega⟩
    · have := see_from (W := W) (x := x) (len := len) (sz := 1) (cap := c) (fun i => icell (zs.getD i 0)) (by omega) (fun i hi => ⟨rfl, fun j u hj => by
        cases j with
        | zero =>
          cases hj
          rw [add_zero', Nat.mul_one]
          exact (hF i hi).2
        | succ j => simp [icell] at hj⟩)
      rw [List.map_map, List.length_map, List.length_range]
      exact this
    · intro z hz
      obtain ⟨i, hi2, rfl⟩ := List.mem_map.1 hz
      exact (hF i (List.mem_range.1 hi2)).1
def AVLen (x : AV) : Prop := x.cs.length ≤ 9223372036854775807 ∧ x.rs.length ≤ 9223372036854775807
set_option maxRecDepth 100000 in
theorem actC_of {n : Nat} {cs : List Value} {z : DataW H × List MemPlace} (hl : cs.length = 6) (h : DataW.trod enc Try.prog W 0 (fun _ => true) true n 43 cs = some z) : ∃ x : AV, cs = acell x ∧ AVIs W x ∧ AVLen x := by
  obtain ⟨y0, y1, y2, y3, m, _, _, t0, t1, t2, t3⟩ := trod_struct4 Try.underlying43 h
  rw [show Try.prog.cellsOf 4 = 1 by kernel_rfl] at t0
  rw [show Try.prog.cellsOf 39 = 3 by kernel_rfl] at t1
  rw [show Try.prog.cellsOf 3 = 1 by kernel_rfl] at t2 t3
  match cs, hl with
  | [v0, v1, v2, v3, v4, v5], _ =>
    simp only [List.drop_succ_cons, List.drop_zero, List.take_succ_cons, List.take_zero] at t0 t1 t2 t3
    obtain ⟨x0, x1, x2, m', _, _, s0, s1, s2⟩ := trod_struct3 Try.underlying39 t1
    rw [show Try.prog.cellsOf 25 = 1 by kernel_rfl] at s0
    rw [show Try.prog.cellsOf 36 = 1 by kernel_rfl] at s1
    rw [show Try.prog.cellsOf 37 = 1 by kernel_rfl] at s2
    simp only [List.drop_succ_cons, List.drop_zero, List.take_succ_cons, List.take_zero] at s0 s1 s2
    obtain ⟨z0, e0, _⟩ := DataW.trod_bool Try.underlying4 t0
    obtain ⟨z1, e1, _, w1⟩ := DataW.trod_int Try.underlying25 s0
    obtain ⟨a2, l2, k2, e2, h2, b2⟩ := copiesV_of s1
    obtain ⟨a3, l3, k3, e3, h3, b3⟩ := intsV_of s2
    obtain ⟨z4, e4, _, w4⟩ := DataW.trod_int Try.underlying3 t2
    obtain ⟨z5, e5, _, w5⟩ := DataW.trod_int Try.underlying3 t3
    simp only [List.cons.injEq, and_true] at e0 e1 e2 e3 e4 e5
    subst e0 e1 e2 e3 e4 e5
    have b1 := u32_of w1
    refine ⟨⟨z0, z1.toNat, .slice a2 l2.length k2, .slice a3 l3.length k3, l2, l3, z4, z5⟩, ?_, ⟨h2, h3, by show z1.toNat < _; omega, i64_of w4, i64_of w5⟩, b2, b3⟩
    unfold acell
    rw [show ((z1.toNat : Nat) : Int) = z1 by omega]
set_option maxRecDepth 100000 in
theorem acts_of {a : Option Addr} {len cap : Nat} {d : DataW H} {p : List MemPlace}
    (h : DataW.Trod enc Try.prog W 0 (fun _ => true) true 24 (.slice a len cap) d p) : ∃ l, ASee W (.slice a len cap) l ∧ l.length ≤ 9223372036854775807 ∧ ∀ x ∈ l, AVLen x := by
  obtain ⟨fuel, hf⟩ := h
  rcases open_slice Try.underlying24 hf with ⟨hcs, _⟩ | ⟨x, l, c, m, n, D, Pl, hcs, _, hl, hc, hm, _, hi⟩
  · simp [Value.cells] at hcs
    obtain ⟨rfl, rfl, rfl⟩ := hcs
    exact ⟨[], ⟨see_none _ _, by simp⟩, by simp, by simp⟩
  · simp [Value.cells] at hcs
    obtain ⟨rfl, rfl, rfl⟩ := hcs
    simp only [if_true] at hm
    subst hm
    rw [show Try.prog.cellsOf 43 = 6 by kernel_rfl] at hi
    have hex : ∀ i, ∃ p : AV, i < len → (AVIs W p ∧ AVLen p) ∧ ∀ j u, (acell p)[j]? = some u → W.cell? ((x.add (i * 6)).add j) = some u := by
      intro i
      by_cases hil : i < len
      · obtain ⟨cs', hc', ht'⟩ := hi i (by omega)
        obtain ⟨hl', hcell⟩ := cellsIn_add hc'
        obtain ⟨p, rfl, hp⟩ := actC_of hl' ht'
        exact ⟨p, fun _ => ⟨hp, hcell⟩⟩
      · exact ⟨⟨false, 0, undef, undef, [], [], 0, 0⟩, fun h => absurd h hil⟩
    obtain ⟨F, hF⟩ := Classical.axiomOfChoice hex
    refine ⟨(List.range len).map F, ⟨?_, ?_⟩, by simp; unfold maxLen at hc; omega, ?_⟩
    · have := see_from (W := W) (x := x) (len := len) (sz := 6) (cap := m) (fun i => acell (F i)) (by omega) (fun i hi => ⟨rfl, (hF i hi).2⟩)
      rw [List.map_map]
      exact this
    · intro y hy
      obtain ⟨i, hi2, rfl⟩ := List.mem_map.1 hy
      exact (hF i (List.mem_range.1 hi2)).1.1
    · intro y hy
      obtain ⟨i, hi2, rfl⟩ := List.mem_map.1 hy
      exact (hF i (List.mem_range.1 hi2)).1.2
set_option maxRecDepth 100000 in
theorem geo_of {r : Reach} {b0 : Nat} {v : Value} {d : DataW H} {p : List MemPlace} (hv : Value.okWide Try.prog W r b0 23 v)
    (h : DataW.Trod enc Try.prog W 0 (fun _ => true) true 23 v d p) : ∃ g0 g1 g2 g3 : Int, v = .agg #[.int .i64 g0, .int .i64 g1, .int .i64 g2, .int .i64 g3] ∧ IntOk g0 ∧ IntOk g1 ∧ IntOk g2 ∧ IntOk g3 := by
  obtain ⟨v0, v1, v2, v3, y0, y1, y2, y3, n, rfl, _, _, h0, h1, h2, h3⟩ := open_agg4 Try.underlying23 (by kernel_rfl) (by kernel_rfl) hv h
  obtain ⟨a, e0, _, w0⟩ := DataW.trod_int Try.underlying3 h0
  obtain ⟨b, e1, _, w1⟩ := DataW.trod_int Try.underlying3 h1
  obtain ⟨c, e2, _, w2⟩ := DataW.trod_int Try.underlying3 h2
  obtain ⟨d, e3, _, w3⟩ := DataW.trod_int Try.underlying3 h3
  simp only [List.cons.injEq, and_true] at e0 e1 e2 e3
  subst e0 e1 e2 e3
  exact ⟨a, b, c, d, rfl, i64_of w0, i64_of w1, i64_of w2, i64_of w3⟩
end
#print axioms acts_of
end Go.Proofs.Ytokehhegomiciaa
