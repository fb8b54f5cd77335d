/- What a row's arguments give to CommitOrder's walk: a geometry, a transaction, numbers. -/
import Derived.Test.YtieknecbheeekaaDoorOpen
import Derived.LaidLaws
import Derived.ChangeSlices
import Derived.Deep.Slices
import Derived.Lib.SmallJoins
set_option linter.unusedVariables false
namespace Go.Proofs.YtieknecbheeekaaDoor
open Go.ChangeShapes Go.WideShapes Go.ChangeAt Go.RowKit Go.Deep Go.Joins

theorem u8_of {a : Int} (w : (Lit.int .u8 a).wf = true) : 0 ≤ a ∧ a < 256 := by
  simp [Lit.wf, IntKind.min, IntKind.max, IntKind.signed, IntKind.bits] at w
  omega
theorem add_zero' (x : Addr) : x.add 0 = x := by unfold Addr.add; split <;> simp_all
section
variable {H : Type} {enc : TypeId × Value → H} {W : World}
/-- a block's bytes, as they are read -/
theorem blk_of {n : Nat} {cs : List Value} {z : DataW H × List MemPlace} (h : DataW.trod enc Tryd.prog W 0 (fun _ => true) true n 34 cs = some z) : ∃ x : Blk, cs = bc x ∧ x.length = 256 ∧ ∀ b ∈ x, b < 256 := by
  obtain ⟨xs, m, _, _, hl, hxl, hi⟩ := DataW.trod_array Tryd.underlying34 h
  rw [show Tryd.prog.cellsOf 34 = 256 by kernel_rfl] at hl
  rw [show Tryd.prog.cellsOf 5 = 1 by kernel_rfl] at hi
  have hex : ∀ i, ∃ b : Nat, i < 256 → cs[i]? = some (.int .u8 (b : Int)) ∧ b < 256 := by
    intro i
    by_cases hil : i < 256
    · have h1 := hi i hil
      rw [List.getElem?_eq_getElem (by omega)] at h1
      obtain ⟨z0, e0, _, w0⟩ := DataW.trod_int Tryd.underlying5 h1
      have hb := u8_of w0
      refine ⟨z0.toNat, fun _ => ⟨?_, by omega⟩⟩
      have h2 : ((cs.drop (i * 1)).take 1)[0]? = some (.int .u8 z0) := by rw [e0]; rfl
      rw [List.getElem?_take_of_lt (by omega), List.getElem?_drop, Nat.mul_one, Nat.add_zero] at h2
      rw [h2, show ((z0.toNat : Nat) : Int) = z0 by omega]
    · exact ⟨0, fun h => absurd h hil⟩
  obtain ⟨F, hF⟩ := Classical.axiomOfChoice hex
  refine ⟨(List.range 256).map F, ?_, by rw [List.length_map, List.length_range], ?_⟩
  · apply List.ext_getElem?
    intro i
    by_cases hil : i < 256
    · rw [(hF i hil).1]
      unfold bc
      rw [List.getElem?_map, List.getElem?_map, List.getElem?_range hil]
      rfl
    · rw [List.getElem?_eq_none (by omega), List.getElem?_eq_none (by rw [bc_length, List.length_map, List.length_range]; omega)]
  · intro b hb
    obtain ⟨i, hi', rfl⟩ := List.mem_map.1 hb
    exact (hF i (List.mem_range.1 hi')).2
theorem cellsIn_add {x : Addr} {n : Nat} {cs : List Value} (hc : W.cells? 0 x n = some cs) : cs.length = n ∧ ∀ j u, cs[j]? = some u → W.cell? (x.add j) = some u := by
  obtain ⟨_, hl, hcell⟩ := World.cells?_some hc
  refine ⟨hl, fun j u hj => ?_⟩
  have hjl : j < n := by rw [← hl]; exact (List.getElem?_eq_some_iff.1 hj).1
  rw [hcell j hjl, hj]
/-- elements that came in one behind the other -/
theorem see_from {x : Addr} {len sz cap : Nat} (F : Nat → List Value) (hsz : 0 < sz) (h : ∀ i, i < len → (F i).length = sz ∧ ∀ j u, (F i)[j]? = some u → W.cell? ((x.add (i * sz)).add j) = some u) : See W sz (.slice (some x) len cap) ((List.range len).map F) := by
  refine ⟨some x, cap, by simp, fun k c hk => ?_⟩
  have hkl : k < len := by simpa using (List.getElem?_eq_some_iff.1 hk).1
  rw [List.getElem?_map, List.getElem?_range hkl] at hk
  cases hk
  obtain ⟨h0, h1⟩ := h 0 (by omega)
  have h2 := h1 0 _ (List.getElem?_eq_getElem (by omega))
  rw [Nat.zero_mul, add_zero', add_zero'] at h2
  obtain ⟨b, o, s⟩ := x
  cases s with
  | some s =>
    unfold World.cell? at h2
    split at h2 <;> simp at h2
  | none =>
    refine ⟨b, o, rfl, World.block_lt_of_cell? W _ h2, fun j u hj => ?_⟩
    have := (h k hkl).2 j u hj
    rwa [Addr.add_mid, Addr.add_mid] at this
set_option maxRecDepth 100000 in
theorem copy_of {n : Nat} {cs : List Value} {z : DataW H × List MemPlace} (hl : cs.length = 257) (h : DataW.trod enc Tryd.prog W 0 (fun _ => true) true n 72 cs = some z) : ∃ c : Cp, cs = ccell c ∧ CpOk c := by
  obtain ⟨y0, y1, m, _, _, t0, t1⟩ := trod_struct2 Tryd.underlying72 h
  rw [show Tryd.prog.cellsOf 3 = 1 by kernel_rfl] at t0
  rw [show Tryd.prog.cellsOf 34 = 256 by kernel_rfl] at t1
  match cs, hl with
  | v0 :: r, hl =>
    simp only [List.length_cons] at hl
    simp only [List.drop_zero, List.take_succ_cons, List.take_zero] at t0
    replace t1 : DataW.trod enc Tryd.prog W 0 (fun _ => true) true m 34 r = some y1 := by
      have : (List.drop 1 (v0 :: r)).take 256 = r := by
        show r.take 256 = r
        exact List.take_of_length_le (by omega)
      rw [← this]; exact t1
    obtain ⟨z0, e0, _, w0⟩ := DataW.trod_int Tryd.underlying3 t0
    obtain ⟨b, e2, hb, _⟩ := blk_of t1
    simp only [List.cons.injEq, and_true] at e0
    subst e0 e2
    exact ⟨(z0, b), rfl, i64_of w0, hb⟩
set_option maxRecDepth 100000 in
theorem copiesV_of {fuel : Nat} {cs : List Value} {z : DataW H × List MemPlace}
    (hf : DataW.trod enc Tryd.prog W 0 (fun _ => true) true fuel 25 cs = some z) : ∃ a l cap, cs = [.slice a (List.length l) cap] ∧ CSee W (.slice a l.length cap) l ∧ l.length ≤ cap ∧ cap ≤ maxLen := by
  rcases open_slice Tryd.underlying25 hf with ⟨hcs, _⟩ | ⟨x, len, c, m, n, D, Pl, hcs, _, hl, hc, hm, _, hi⟩
  · exact ⟨none, [], 0, hcs, ⟨⟨none, 0, rfl, fun k c h => by simp at h⟩, by simp⟩, by simp, Nat.zero_le _⟩
  · simp only [if_true] at hm
    subst hm
    rw [show Tryd.prog.cellsOf 72 = 257 by kernel_rfl] at hi
    have hex : ∀ i, ∃ p : Cp, i < len → CpOk p ∧ ∀ j u, (ccell p)[j]? = some u → W.cell? ((x.add (i * 257)).add j) = some u := by
      intro i
      by_cases hil : i < len
      · obtain ⟨cs', hc', ht'⟩ := hi i (by omega)
        obtain ⟨hl', hcell⟩ := cellsIn_add hc'
        obtain ⟨p, rfl, hp⟩ := copy_of hl' ht'
        exact ⟨p, fun _ => ⟨hp, hcell⟩⟩
      · exact ⟨zeroC, fun h => absurd h hil⟩
    obtain ⟨F, hF⟩ := Classical.axiomOfChoice hex
    refine ⟨some x, (List.range len).map F, m, by simpa using hcs, ⟨?_, ?_⟩, by simp; omega, by omega⟩
    · have := see_from (W := W) (x := x) (len := len) (sz := 257) (cap := m) (fun i => ccell (F i)) (by omega) (fun i hi => ⟨ccell_length (hF i hi).1.2, (hF i hi).2⟩)
      rw [List.map_map, List.length_map, List.length_range]
      exact this
    · intro c hc2
      obtain ⟨i, hi2, rfl⟩ := List.mem_map.1 hc2
      exact (hF i (List.mem_range.1 hi2)).1
theorem intsV_of {fuel : Nat} {cs : List Value} {z : DataW H × List MemPlace}
    (hf : DataW.trod enc Tryd.prog W 0 (fun _ => true) true fuel 26 cs = some z) : ∃ a l cap, cs = [.slice a (List.length l) cap] ∧ ISee W (.slice a l.length cap) l ∧ l.length ≤ cap ∧ cap ≤ maxLen := by
  rcases open_ints Tryd.underlying26 Tryd.underlying3 (by kernel_rfl) hf with ⟨hcs, _⟩ | ⟨x, len, c, zs, hcs, _, hl, hc, hzl, _, hi, hw⟩
  · exact ⟨none, [], 0, hcs, ⟨⟨none, 0, rfl, fun k c h => by simp at h⟩, by simp⟩, by simp, Nat.zero_le _⟩
  · simp only [if_true] at hzl
    have hF : ∀ i, i < len → IntOk (zs.getD i 0) ∧ W.cell? (x.add i) = some (.int .i64 (zs.getD i 0)) := by
      intro i hil
      have hm : zs.getD i 0 ∈ zs := by
        rw [List.getD_eq_getElem?_getD, List.getElem?_eq_getElem (by omega)]
        exact List.getElem_mem _
      exact ⟨i64_of (hw _ hm), hi i (by omega)⟩
    refine ⟨some x, (List.range len).map fun i => zs.getD i 0, c, by simpa using hcs, ⟨?_, ?_⟩, by simp; omega, by omega⟩
    · have := see_from (W := W) (x := x) (len := len) (sz := 1) (cap := c) (fun i => icell (zs.getD i 0)) (by omega) (fun i hi => ⟨rfl, fun j u hj => by
        cases j with
        | zero =>
          cases hj
          rw [add_zero', Nat.mul_one]
          exact (hF i hi).2
        | succ j => simp [icell] at hj⟩)
      rw [List.map_map, List.length_map, List.length_range]
      exact this
    · intro z hz
      obtain ⟨i, hi2, rfl⟩ := List.mem_map.1 hz
      exact (hF i (List.mem_range.1 hi2)).1
set_option maxRecDepth 100000 in
theorem geo_of {r : Reach} {b0 : Nat} {v : Value} {d : DataW H} {p : List MemPlace} (hv : Value.okWide Tryd.prog W r b0 23 v)
    (h : DataW.Trod enc Tryd.prog W 0 (fun _ => true) true 23 v d p) : ∃ g0 g1 g2 g3 : Int, v = .agg #[.int .i64 g0, .int .i64 g1, .int .i64 g2, .int .i64 g3] ∧ IntOk g0 ∧ IntOk g1 ∧ IntOk g2 ∧ IntOk g3 := by
  obtain ⟨v0, v1, v2, v3, y0, y1, y2, y3, n, rfl, _, _, h0, h1, h2, h3⟩ := open_agg4 Tryd.underlying23 (by kernel_rfl) (by kernel_rfl) hv h
  obtain ⟨a, e0, _, w0⟩ := DataW.trod_int Tryd.underlying3 h0
  obtain ⟨b, e1, _, w1⟩ := DataW.trod_int Tryd.underlying3 h1
  obtain ⟨c, e2, _, w2⟩ := DataW.trod_int Tryd.underlying3 h2
  obtain ⟨d, e3, _, w3⟩ := DataW.trod_int Tryd.underlying3 h3
  simp only [List.cons.injEq, and_true] at e0 e1 e2 e3
  subst e0 e1 e2 e3
  exact ⟨a, b, c, d, rfl, i64_of w0, i64_of w1, i64_of w2, i64_of w3⟩
set_option maxRecDepth 100000 in
theorem trans_of {r : Reach} {b0 : Nat} {v : Value} {d : DataW H} {p : List MemPlace} (hv : Value.okWide Tryd.prog W r b0 28 v)
    (h : DataW.Trod enc Tryd.prog W 0 (fun _ => true) true 28 v d p) : ∃ (s : Nat) (a1 : Option Addr) (k1 : Nat) (a2 : Option Addr) (k2 : Nat) (cs : List Cp) (rs : List Int), v = .agg #[.int .u32 (s : Int), .slice a1 cs.length k1, .slice a2 rs.length k2] ∧ CSee W (.slice a1 cs.length k1) cs ∧ ISee W (.slice a2 rs.length k2) rs ∧ (cs.length ≤ k1 ∧ k1 ≤ maxLen) ∧ (rs.length ≤ k2 ∧ k2 ≤ maxLen) := by
  obtain ⟨v0, v1, v2, y0, y1, y2, n, rfl, _, _, h0, h1, h2⟩ := open_agg3 Tryd.underlying28 (by kernel_rfl) (by kernel_rfl) hv h
  obtain ⟨a, e0, _, w0⟩ := DataW.trod_int Tryd.underlying24 h0
  obtain ⟨a1, l1, k1, e1, g1, b1, c1⟩ := copiesV_of h1
  obtain ⟨a2, l2, k2, e2, g2, b2, c2⟩ := intsV_of h2
  simp only [List.cons.injEq, and_true] at e0 e1 e2
  subst e0 e1 e2
  obtain ⟨s, hs⟩ : ∃ s : Nat, a = (s : Int) := ⟨a.toNat, by have := w0; simp [Lit.wf, IntKind.min, IntKind.max, IntKind.signed, IntKind.bits] at this; omega⟩
  subst hs
  exact ⟨s, a1, k1, a2, k2, l1, l2, rfl, g1, g2, ⟨b1, c1⟩, ⟨b2, c2⟩⟩
theorem ints_of {a : Option Addr} {len cap : Nat} {d : DataW H} {p : List MemPlace} (h : DataW.Trod enc Tryd.prog W 0 (fun _ => true) true 26 (.slice a len cap) d p) : ∃ l : List Int, l.length = len ∧ ISee W (.slice a l.length cap) l := by
  obtain ⟨fuel, hf⟩ := h
  obtain ⟨a1, l, k1, e1, g1, _, _⟩ := intsV_of hf
  simp [Value.cells] at e1
  obtain ⟨rfl, rfl, rfl⟩ := e1
  exact ⟨l, rfl, g1⟩
end
#print axioms trans_of
#print axioms ints_of
end Go.Proofs.YtieknecbheeekaaDoor
