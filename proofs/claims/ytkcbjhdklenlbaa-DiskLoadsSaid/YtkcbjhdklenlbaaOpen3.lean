/- What DiskLoads' arguments give to the walk: numbers, and acts with their flags and the flags' reach. -/
import Derived.Test.YtkcbjhdklenlbaaOpen2
import Derived.SizedLaws
import Derived.ChangeSlices
set_option linter.unusedVariables false
namespace Go.Proofs.Ytkcbjhdklenlbaa
open Go.ChangeShapes Go.WideShapes Go.ChangeAt Go.RowKit Go.Deep Go.Joins

/-- numbers that came in -/
def Nums (w : World) (v : Value) (fs : List Nat) : Prop := ∃ a cap, v = .slice a fs.length cap ∧ ∀ (i f : Nat), fs[i]? = some f → ∃ y : Addr, a = some y ∧ y.block < w.heap.size ∧ w.cell? (y.add i) = some (.int .u32 (f : Int)) ∧ f < 4294967296
theorem nums_of {H : Type} {enc : TypeId × Value → H} {W : World} {a : Option Addr} {len cap : Nat} {d : DataW H} {p : List MemPlace}
    (h : DataW.Trod enc Try.prog W 0 (fun _ => true) true 59 (.slice a len cap) d p) : ∃ fs, Nums W (.slice a len cap) fs ∧ fs.length ≤ 9223372036854775807 := by
  obtain ⟨fuel, hf⟩ := h
  rcases open_ints Try.underlying59 Try.underlying34 (by kernel_rfl) hf with ⟨hcs, _⟩ | ⟨x, l, c, zs, hcs, _, hl, hc, hzl, _, hi, hw⟩
  · simp [Value.cells] at hcs
    obtain ⟨rfl, rfl, rfl⟩ := hcs
    exact ⟨[], ⟨none, 0, rfl, fun i p h => by simp at h⟩, by simp⟩
  · simp [Value.cells] at hcs
    obtain ⟨rfl, rfl, rfl⟩ := hcs
    simp only [if_true] at hzl
    refine ⟨(List.range len).map fun i => (zs.getD i 0).toNat, ⟨some x, cap, by simp, ?_⟩, by simp; unfold maxLen at hc; omega⟩
    intro i q hq
    have hil : i < len := by
      have := (List.getElem?_eq_some_iff.1 hq).1
      simpa using this
    rw [List.getElem?_map, List.getElem?_range hil] at hq
    simp only [Option.map_some, Option.some.injEq] at hq
    have c0 := hi i (by omega)
    have hm : zs.getD i 0 ∈ zs := by
      rw [List.getD_eq_getElem?_getD, List.getElem?_eq_getElem (by omega)]
      exact List.getElem_mem _
    have b := u32_of (hw _ hm)
    refine ⟨x, rfl, ?_, ?_, by omega⟩
    · have := World.block_lt_of_cell? W _ c0
      rwa [add_block] at this
    · rw [c0, show zs.getD i 0 = (q : Int) by omega]

structure AQ where
  k : Int
  a : Int
  f : Nat
  ks : List Bool
def ActAtQ (w : World) (x : Addr) (p : AQ) : Prop := ∃ (a : Option Addr) (cap : Nat), w.cell? x = some (.int .u8 p.k) ∧ w.cell? (x.add 1) = some (.int .i64 p.a) ∧ w.cell? (x.add 2) = some (.int .u32 (p.f : Int)) ∧ w.cell? (x.add 3) = some (.slice a p.ks.length cap) ∧ Flags w (.slice a p.ks.length cap) p.ks ∧
  (a = none → cap = 0 ∧ p.ks.length = 0) ∧ p.ks.length ≤ 140737488351232 ∧ (0 ≤ p.k ∧ p.k < 256) ∧ (-9223372036854775808 ≤ p.a ∧ p.a ≤ 9223372036854775807) ∧ p.f < 4294967296
def ActsInQ (w : World) (v : Value) (l : List AQ) : Prop := ∃ a cap, v = .slice a l.length cap ∧ ∀ i p, l[i]? = some p → ∃ y : Addr, a = some y ∧ y.block < w.heap.size ∧ ActAtQ w (y.add (i * 4)) p
theorem u8_ofQ {a : Int} (w : (Lit.int .u8 a).wf = true) : 0 ≤ a ∧ a < 256 := by
  simp [Lit.wf, IntKind.min, IntKind.max, IntKind.signed, IntKind.bits] at w
  omega
theorem add_zeroQ (x : Addr) : x.add 0 = x := by unfold Addr.add; split <;> simp_all
theorem weightsAll_memQ {H : Type} {P : Program} {e : TypeId} : ∀ {l : List (DataW H)} {d : DataW H}, d ∈ l → ∀ n ∈ d.weights P e, n ∈ DataW.weightsAll P e l
  | d' :: r, d, hd, n, hn => by
    simp only [DataW.weightsAll, List.mem_append]
    rcases List.mem_cons.1 hd with rfl | h
    · exact Or.inl hn
    · exact Or.inr (weightsAll_memQ h n hn)
theorem keep_weight {H : Type} {y0 y1 y2 : DataW H} {es sp : List (DataW H)} : es.length + sp.length ∈ (DataW.agg [y0, y1, y2, .slice es sp]).weights Try.prog 55 := by
  simp only [DataW.weights, Try.underlying55, DataW.weightsEach, List.map_cons, List.map_nil, List.mem_append, Try.underlying50, show Try.prog.bytesOf 4 = 1 by kernel_rfl, Nat.mul_one]
  exact .inr (.inr (.inr (.inl (.head _))))
theorem actAtQ_of {H : Type} {enc : TypeId × Value → H} {W : World} {x : Addr} {cs : List Value} {n : Nat} {z : DataW H × List MemPlace} (hc : W.cells? 0 x 4 = some cs)
    (h : DataW.trod enc Try.prog W 0 (fun _ => true) true n 55 cs = some z) (hw : ∀ m ∈ z.1.weights Try.prog 55, m ≤ reachBytes) : ∃ p, ActAtQ W x p := by
  obtain ⟨_, hl, hcell⟩ := World.cells?_some hc
  obtain ⟨y0, y1, y2, y3, m, hz, _, t0, t1, t2, t3⟩ := trod_struct4 Try.underlying55 h
  match cs, hl with
  | [v0, v1, v2, v3], _ =>
    rw [show Try.prog.cellsOf 5 = 1 by kernel_rfl] at t0
    rw [show Try.prog.cellsOf 3 = 1 by kernel_rfl] at t1
    rw [show Try.prog.cellsOf 34 = 1 by kernel_rfl] at t2
    rw [show Try.prog.cellsOf 50 = 1 by kernel_rfl] at t3
    simp only [List.drop_succ_cons, List.drop_zero, List.take_succ_cons, List.take_zero] at t0 t1 t2 t3
    have c0 := hcell 0 (by omega)
    have c1 := hcell 1 (by omega)
    have c2 := hcell 2 (by omega)
    have c3 := hcell 3 (by omega)
    rw [add_zeroQ] at c0
    simp only [List.getElem?_cons_zero, List.getElem?_cons_succ] at c0 c1 c2 c3
    obtain ⟨z0, e0, _, w0⟩ := DataW.trod_int Try.underlying5 t0
    obtain ⟨z1, e1, _, w1⟩ := DataW.trod_int Try.underlying3 t1
    obtain ⟨z2, e2, _, w2⟩ := DataW.trod_int Try.underlying34 t2
    simp only [List.cons.injEq, and_true] at e0 e1 e2
    subst e0 e1 e2
    have b2 := u32_of w2
    rcases open_bools Try.underlying50 Try.underlying4 (by kernel_rfl) t3 with ⟨hcs, _⟩ | ⟨x3, l, c, Bf, hcs, _, hl, hcc, hy3, hi⟩
    · simp only [List.cons.injEq, and_true] at hcs
      subst hcs
      exact ⟨⟨z0, z1, z2.toNat, []⟩, none, 0, c0, c1, by rw [c2]; show _ = some (Value.int .u32 ((z2.toNat : Nat) : Int)); rw [show ((z2.toNat : Nat) : Int) = z2 by omega], c3, ⟨none, 0, rfl, fun i p h => by simp at h⟩, fun _ => ⟨rfl, rfl⟩, by simp, u8_ofQ w0, i64_of w1, by show z2.toNat < _; omega⟩
    · simp only [List.cons.injEq, and_true] at hcs
      subst hcs
      have hlr : l ≤ 140737488351232 := by
        rw [hz, hy3] at hw
        have h9 := hw _ (keep_weight)
        rw [List.length_map, List.length_range] at h9
        unfold reachBytes at h9
        omega
      refine ⟨⟨z0, z1, z2.toNat, (List.range l).map Bf⟩, some x3, c, c0, c1, by rw [c2]; show _ = some (Value.int .u32 ((z2.toNat : Nat) : Int)); rw [show ((z2.toNat : Nat) : Int) = z2 by omega], by rw [c3]; simp, ⟨some x3, c, rfl, ?_⟩, fun h => (by cases h), by simpa using hlr, u8_ofQ w0, i64_of w1, by show z2.toNat < _; omega⟩
      intro i q hq
      have hil : i < l := by
        have := (List.getElem?_eq_some_iff.1 hq).1
        simpa using this
      have hx := hi i (by omega)
      rw [List.getElem?_map, List.getElem?_range hil] at hq
      simp only [Option.map_some, Option.some.injEq] at hq
      refine ⟨x3, rfl, ?_, by rw [hx, hq]⟩
      have := World.block_lt_of_cell? W _ hx
      rwa [add_block] at this
theorem actsQ_of {H : Type} {enc : TypeId × Value → H} {W : World} {a : Option Addr} {len cap : Nat} {d : DataW H} {p : List MemPlace} (hw : ∀ m ∈ d.weights Try.prog 52, m ≤ reachBytes)
    (h : DataW.Trod enc Try.prog W 0 (fun _ => true) true 52 (.slice a len cap) d p) : ∃ l, ActsInQ W (.slice a len cap) l ∧ l.length ≤ 9223372036854775807 := by
  obtain ⟨fuel, hf⟩ := h
  rcases open_slice Try.underlying52 hf with ⟨hcs, _⟩ | ⟨x, l, c, m, n, D, Pl, hcs, _, hl, hc, hm, hd, hi⟩
  · simp [Value.cells] at hcs
    obtain ⟨rfl, rfl, rfl⟩ := hcs
    exact ⟨[], ⟨none, 0, rfl, fun i p h => by simp at h⟩, by simp⟩
  · simp [Value.cells] at hcs
    obtain ⟨rfl, rfl, rfl⟩ := hcs
    simp only [if_true] at hm
    subst hm
    simp only [Prod.mk.injEq] at hd
    rw [show Try.prog.cellsOf 55 = 4 by kernel_rfl] at hi
    have hex : ∀ i, ∃ p : AQ, i < len → ActAtQ W (x.add (i * 4)) p := by
      intro i
      by_cases hil : i < len
      · obtain ⟨cs', hc', ht'⟩ := hi i (by omega)
        obtain ⟨p, hp⟩ := actAtQ_of hc' ht' (fun k hk => hw k (by
          rw [hd.1]
          simp only [DataW.weights, Try.underlying52, List.mem_cons, List.mem_append]
          exact .inr (.inl (weightsAll_memQ (List.mem_map.2 ⟨i, List.mem_range.2 hil, rfl⟩) k hk))))
        exact ⟨p, fun _ => hp⟩
      · exact ⟨⟨0, 0, 0, []⟩, fun h => absurd h hil⟩
    obtain ⟨F, hF⟩ := Classical.axiomOfChoice hex
    refine ⟨(List.range len).map F, ⟨some x, m, by simp, ?_⟩, by simp; unfold maxLen at hc; omega⟩
    intro i q hq
    have hil : i < len := by
      have := (List.getElem?_eq_some_iff.1 hq).1
      simpa using this
    rw [List.getElem?_map, List.getElem?_range hil] at hq
    simp only [Option.map_some, Option.some.injEq] at hq
    have h1 := hF i hil
    rw [hq] at h1
    refine ⟨x, rfl, ?_, h1⟩
    obtain ⟨a', cap', h0, _⟩ := h1
    have := World.block_lt_of_cell? W _ h0
    rwa [add_block] at this
#print axioms actsQ_of
end Go.Proofs.Ytkcbjhdklenlbaa
