/- The law DiskCrashes: acts that came in; the plain side. -/
import Derived.Test.YtkcbjhdklenlbaaD32
import Derived.Test.YtkcbjhdklenlbaaD27
import Derived.Test.YtkcbjhdklenlbaaOpen2
set_option linter.unusedVariables false
set_option linter.unusedSimpArgs false
namespace Go.Proofs.Ytkcbjhdklenlbaa
open Go.ChangeShapes Go.WideShapes Go.ChangeAt Go.RowKit Go.Deep Go.Joins

structure AP where
  k : Int
  a : Int
  f : Nat
  ks : List Bool
def ActAt (w : World) (x : Addr) (p : AP) : Prop := ∃ vk : Value, w.cell? x = some (.int .u8 p.k) ∧ w.cell? (x.add 1) = some (.int .i64 p.a) ∧ w.cell? (x.add 2) = some (.int .u32 (p.f : Int)) ∧ w.cell? (x.add 3) = some vk ∧ Flags w vk p.ks ∧
  p.ks.length ≤ 9223372036854775807 ∧ (0 ≤ p.k ∧ p.k < 256) ∧ (-9223372036854775808 ≤ p.a ∧ p.a ≤ 9223372036854775807) ∧ p.f < 4294967296
def ActsIn (w : World) (v : Value) (l : List AP) : Prop := ∃ a cap, v = .slice a l.length cap ∧ ∀ i p, l[i]? = some p → ∃ y : Addr, a = some y ∧ y.block < w.heap.size ∧ ActAt w (y.add (i * 4)) p
theorem u8_of {a : Int} (w : (Lit.int .u8 a).wf = true) : 0 ≤ a ∧ a < 256 := by
  simp [Lit.wf, IntKind.min, IntKind.max, IntKind.signed, IntKind.bits] at w
  omega
theorem add_zero' (x : Addr) : x.add 0 = x := by unfold Addr.add; split <;> simp_all
theorem actAt_of {H : Type} {enc : TypeId × Value → H} {W : World} {x : Addr} {cs : List Value} {n : Nat} {z : DataW H × List MemPlace} (hc : W.cells? 0 x 4 = some cs)
    (h : DataW.trod enc Try.prog W 0 (fun _ => true) true n 55 cs = some z) : ∃ p, ActAt W x p := by
  obtain ⟨_, hl, hcell⟩ := World.cells?_some hc
  obtain ⟨y0, y1, y2, y3, m, _, _, t0, t1, t2, t3⟩ := trod_struct4 Try.underlying55 h
  match cs, hl with
  | [v0, v1, v2, v3], _ =>
    rw [show Try.prog.cellsOf 5 = 1 by kernel_rfl] at t0
    rw [show Try.prog.cellsOf 3 = 1 by kernel_rfl] at t1
    rw [show Try.prog.cellsOf 34 = 1 by kernel_rfl] at t2
    rw [show Try.prog.cellsOf 50 = 1 by kernel_rfl] at t3
    simp only [List.drop_succ_cons, List.drop_zero, List.take_succ_cons, List.take_zero] at t0 t1 t2 t3
    have c0 := hcell 0 (by omega)
    have c1 := hcell 1 (by omega)
    have c2 := hcell 2 (by omega)
    have c3 := hcell 3 (by omega)
    rw [add_zero'] at c0
    simp only [List.getElem?_cons_zero, List.getElem?_cons_succ] at c0 c1 c2 c3
    obtain ⟨z0, e0, _, w0⟩ := DataW.trod_int Try.underlying5 t0
    obtain ⟨z1, e1, _, w1⟩ := DataW.trod_int Try.underlying3 t1
    obtain ⟨z2, e2, _, w2⟩ := DataW.trod_int Try.underlying34 t2
    simp only [List.cons.injEq, and_true] at e0 e1 e2
    subst e0 e1 e2
    have b2 := u32_of w2
    rcases open_bools Try.underlying50 Try.underlying4 (by kernel_rfl) t3 with ⟨hcs, _⟩ | ⟨x3, l, c, Bf, hcs, _, hl, hcc, _, hi⟩
    · simp only [List.cons.injEq, and_true] at hcs
      subst hcs
      exact ⟨⟨z0, z1, z2.toNat, []⟩, _, c0, c1, by rw [c2]; show _ = some (Value.int .u32 ((z2.toNat : Nat) : Int)); rw [show ((z2.toNat : Nat) : Int) = z2 by omega], c3, ⟨none, 0, rfl, fun i p h => by simp at h⟩, by simp, u8_of w0, i64_of w1, by show z2.toNat < _; omega⟩
    · simp only [List.cons.injEq, and_true] at hcs
      subst hcs
      refine ⟨⟨z0, z1, z2.toNat, (List.range l).map Bf⟩, _, c0, c1, by rw [c2]; show _ = some (Value.int .u32 ((z2.toNat : Nat) : Int)); rw [show ((z2.toNat : Nat) : Int) = z2 by omega], c3, ⟨some x3, c, by simp, ?_⟩, by simp; unfold maxLen at hcc; omega, u8_of w0, i64_of w1, by show z2.toNat < _; omega⟩
      intro i q hq
      have hil : i < l := by
        have := (List.getElem?_eq_some_iff.1 hq).1
        simpa using this
      have hx := hi i (by omega)
      rw [List.getElem?_map, List.getElem?_range hil] at hq
      simp only [Option.map_some, Option.some.injEq] at hq
      refine ⟨x3, rfl, ?_, by rw [hx, hq]⟩
      have := World.block_lt_of_cell? W _ hx
      rwa [add_block] at this
theorem acts_of {H : Type} {enc : TypeId × Value → H} {W : World} {a : Option Addr} {len cap : Nat} {d : DataW H} {p : List MemPlace}
    (h : DataW.Trod enc Try.prog W 0 (fun _ => true) true 52 (.slice a len cap) d p) : ∃ l, ActsIn W (.slice a len cap) l ∧ l.length ≤ 9223372036854775807 := by
  obtain ⟨fuel, hf⟩ := h
  rcases open_slice Try.underlying52 hf with ⟨hcs, _⟩ | ⟨x, l, c, m, n, D, Pl, hcs, _, hl, hc, hm, _, hi⟩
  · simp [Value.cells] at hcs
    obtain ⟨rfl, rfl, rfl⟩ := hcs
    exact ⟨[], ⟨none, 0, rfl, fun i p h => by simp at h⟩, by simp⟩
  · simp [Value.cells] at hcs
    obtain ⟨rfl, rfl, rfl⟩ := hcs
    simp only [if_true] at hm
    subst hm
    rw [show Try.prog.cellsOf 55 = 4 by kernel_rfl] at hi
    have hex : ∀ i, ∃ p : AP, i < len → ActAt W (x.add (i * 4)) p := by
      intro i
      by_cases hil : i < len
      · obtain ⟨cs', hc', ht'⟩ := hi i (by omega)
        obtain ⟨p, hp⟩ := actAt_of hc' ht'
        exact ⟨p, fun _ => hp⟩
      · exact ⟨⟨0, 0, 0, []⟩, fun h => absurd h hil⟩
    obtain ⟨F, hF⟩ := Classical.axiomOfChoice hex
    refine ⟨(List.range len).map F, ⟨some x, m, by simp, ?_⟩, by simp; unfold maxLen at hc; omega⟩
    intro i q hq
    have hil : i < len := by
      have := (List.getElem?_eq_some_iff.1 hq).1
      simpa using this
    rw [List.getElem?_map, List.getElem?_range hil] at hq
    simp only [Option.map_some, Option.some.injEq] at hq
    have h1 := hF i hil
    rw [hq] at h1
    refine ⟨x, rfl, ?_, h1⟩
    obtain ⟨vk, h0, _⟩ := h1
    have := World.block_lt_of_cell? W _ h0
    rwa [add_block] at this

/-- a disk whose power does not go -/
structure Good (N k : Nat) (d : DS) : Prop where
  safe : d.safe.length = N
  last : d.last = applyW d.safe d.ws
  set : d.set = false
  left : d.left = 0
  wlt : ∀ p ∈ d.ws, p.1 < N
  ws : d.ws.length ≤ k
  acts : 0 ≤ d.acts ∧ d.acts ≤ k
theorem Good.new (N : Nat) : Good N 0 (newD N) := ⟨by simp [newD], rfl, rfl, rfl, fun p h => (by cases h), Nat.le_refl _, ⟨Int.le_refl _, Int.le_refl _⟩⟩
theorem Good.more {N k : Nat} {d : DS} (h : Good N k d) : Good N (k + 1) d := { h with ws := Nat.le_succ_of_le h.ws, acts := ⟨h.acts.1, by have := h.acts.2; omega⟩ }
theorem Good.dead {N k : Nat} {d : DS} (h : Good N k d) : d.dead = false := by unfold DS.dead; rw [h.set]; rfl
theorem Good.why {N k : Nat} {d : DS} (h : Good N k d) (b : Int) : d.why b = if 0 ≤ b ∧ b < N then 0 else 2 := by unfold DS.why; rw [h.dead, h.safe]; rfl
theorem Good.in_ {N k : Nat} {d : DS} (h : Good N k d) : ∀ p ∈ d.ws, p.1 < d.safe.length := by rw [h.safe]; exact h.wlt
theorem Good.flushed {N k : Nat} {d : DS} (h : Good N k d) : Good N (k + 1) d.flushed where
  safe := by show (applyW d.safe d.ws).length = N; rw [applyW_length]; exact h.safe
  last := h.last
  set := h.set
  left := by show (if d.set then d.left - 1 else d.left) = 0; rw [h.set]; exact h.left
  wlt := fun p hp => by cases hp
  ws := Nat.zero_le _
  acts := by show 0 ≤ d.acts + 1 ∧ d.acts + 1 ≤ _; have := h.acts; omega
theorem Good.wrote {N k : Nat} {d : DS} (h : Good N k d) (b : Nat) (hb : b < N) (x : Blk) : Good N (k + 1) (d.wrote b x) where
  safe := h.safe
  last := by show d.last.set b x = applyW d.safe (d.ws ++ [(b, x)]); rw [applyW_snoc, h.last]
  set := h.set
  left := by show (if d.set then d.left - 1 else d.left) = 0; rw [h.set]; exact h.left
  wlt := fun p hp => by
    rcases List.mem_append.1 (show p ∈ d.ws ++ [(b, x)] from hp) with h1 | h1
    · exact h.wlt p h1
    · rw [List.mem_singleton.1 h1]; exact hb
  ws := by show (d.ws ++ [(b, x)]).length ≤ k + 1; rw [List.length_append]; have := h.ws; simp; omega
  acts := by show 0 ≤ d.acts + 1 ∧ d.acts + 1 ≤ _; have := h.acts; omega
theorem Good.crashed {N k : Nat} {d : DS} (h : Good N k d) (ks : List Bool) : Good N k (d.crashed ks) where
  safe := by show (applyW d.safe (kept d.ws ks)).length = N; rw [applyW_length]; exact h.safe
  last := rfl
  set := rfl
  left := rfl
  wlt := fun p hp => by cases hp
  ws := Nat.zero_le _
  acts := h.acts
theorem kept_step : ∀ (ws : List (Nat × Blk)) (ks : List Bool) (k : Nat) (p : Nat × Blk), ws[k]? = some p → kept (ws.take (k + 1)) ks = kept (ws.take k) ks ++ (if ks[k]? = some true then [p] else []) := by
  intro ws
  induction ws with
  | nil => intro ks k p h; simp at h
  | cons q ws ih =>
    intro ks k p h
    cases ks with
    | nil => cases k <;> simp [kept]
    | cons c ks =>
      cases k with
      | zero =>
        obtain rfl : q = p := by simpa using h
        cases c <;> simp [kept]
      | succ k =>
        have := ih ks k p (by simpa using h)
        rw [List.take_succ_cons, List.take_succ_cons]
        cases c
        · show kept (ws.take (k + 1)) ks = kept (ws.take k) ks ++ _
          rw [this]; simp
        · show q :: kept (ws.take (k + 1)) ks = (q :: kept (ws.take k) ks) ++ _
          rw [this]; simp
/-- did all come through so far? -/
def allTo (m : Nat) (ks : List Bool) (k : Nat) : Bool := decide (m ≤ ks.length) && (ks.take k).all id
theorem allTo_zero (m : Nat) (ks : List Bool) : allTo m ks 0 = decide (m ≤ ks.length) := by simp [allTo]
theorem allTo_yes {m : Nat} {ks : List Bool} {k : Nat} (h : ks[k]? = some true) : allTo m ks (k + 1) = allTo m ks k := by
  have hk := (List.getElem?_eq_some_iff.1 h).1
  have hv := (List.getElem?_eq_some_iff.1 h).2
  unfold allTo
  rw [List.take_succ_eq_append_getElem hk, List.all_append, hv]
  simp
theorem allTo_no {m : Nat} {ks : List Bool} {k : Nat} (hk : k < m) (h : ks[k]? ≠ some true) : allTo m ks (k + 1) = false := by
  unfold allTo
  by_cases hl : k < ks.length
  · have hv : ks[k] = false := by
      cases e : ks[k]
      · rfl
      · exact absurd (by rw [List.getElem?_eq_getElem hl, e]) h
    rw [List.take_succ_eq_append_getElem hl, List.all_append, hv]
    simp
  · rw [decide_eq_false (by omega)]; rfl
theorem kept_full : ∀ (ws : List (Nat × Blk)) (ks : List Bool), allTo ws.length ks ws.length = true → kept ws ks = ws := by
  intro ws
  induction ws with
  | nil => intro ks _; cases ks <;> rfl
  | cons p ws ih =>
    intro ks h
    unfold allTo at h
    cases ks with
    | nil => simp at h
    | cons c ks =>
      simp only [List.length_cons, List.take_succ_cons, List.all_cons, id] at h
      cases c
      · simp at h
      · show p :: kept ws ks = p :: ws
        rw [ih ks (by unfold allTo; simpa using h)]
theorem crash_read (N k : Nat) (d : DS) (ks : List Bool) (x : Blk) (h : Good N k d) (hN : 1 ≤ N) : ∃ h0 : 0 < (((d.crashed ks).wrote 0 x).flushed.crashed []).last.length, (((d.crashed ks).wrote 0 x).flushed.crashed []).last[0]'h0 = x := by
  have he : (((d.crashed ks).wrote 0 x).flushed.crashed []).last = (applyW d.safe (kept d.ws ks)).set 0 x := rfl
  have hl : 0 < (applyW d.safe (kept d.ws ks)).length := by rw [applyW_length, h.safe]; exact hN
  refine ⟨by rw [he, List.length_set]; exact hl, ?_⟩
  simp only [he]
  exact List.getElem_set_self _
#print axioms kept_full
end Go.Proofs.Ytkcbjhdklenlbaa
