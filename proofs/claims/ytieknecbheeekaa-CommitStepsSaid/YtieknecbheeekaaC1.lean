/- A cache in memory: what it is; its maps read as plain functions. -/
import Derived.Test.YtieknecbheeekaaD48
import Derived.Maps.RangeWalk
import Derived.Maps.OwnSet
set_option linter.unusedVariables false
set_option linter.unusedSimpArgs false
namespace Go.Proofs.Ytieknecbheeekaa
open Go.RowKit Go.Maps

/-- what the cache has of a block: its bytes, whether it is dirty -/
abbrev Hd := Blk × Bool
def hcells (h : Hd) : List Value := bc h.1 ++ [.bool h.2]
def hvv (h : Hd) : Value := .agg (hcells h).toArray
theorem bc_inj {x y : Blk} (h : bc x = bc y) : x = y := by
  unfold bc at h
  exact (List.map_inj_right (fun a b hab => by have h2 := (Value.int.inj hab).2; omega)).1 h
theorem hcells_inj {a b : Hd} (h : hcells a = hcells b) : a = b := by
  unfold hcells at h
  have h1 := List.append_inj' h (by simp)
  have h2 : a.2 = b.2 := by have := h1.2; simp only [List.cons.injEq, Value.bool.injEq, and_true] at this; exact this
  exact Prod.ext (bc_inj h1.1) h2
theorem hvv_inj {a b : Hd} (h : hvv a = hvv b) : a = b := by
  unfold hvv at h
  simp only [Value.agg.injEq] at h
  exact hcells_inj (by simpa using h)
theorem hcells_length {h : Hd} (hl : h.1.length = 256) : (hcells h).length = 257 := by unfold hcells; rw [List.length_append, bc_length, hl]; rfl
theorem hcells_one (h : Hd) : ∀ v ∈ hcells h, v.oneCell' = true := by
  intro v hv
  rcases List.mem_append.1 hv with h1 | h1
  · exact bc_one _ v h1
  · rw [List.mem_singleton.1 h1]; rfl
open Classical in
noncomputable def heldElem (v : Value) : Option (DataW Value × List MemPlace) := if ∃ h : Hd, h.1.length = 256 ∧ v = hvv h then some (.held v, []) else none
theorem heldElem_mk (h : Hd) (hl : h.1.length = 256) : heldElem (hvv h) = some (.held (hvv h), []) := by unfold heldElem; rw [if_pos ⟨h, hl, rfl⟩]
theorem heldElem_inv {v : Value} {y : DataW Value × List MemPlace} (h : heldElem v = some y) : ∃ x : Hd, x.1.length = 256 ∧ v = hvv x ∧ y = (.held (hvv x), []) := by
  unfold heldElem at h
  split at h
  · rename_i hc
    obtain ⟨x, h1, rfl⟩ := hc
    exact ⟨x, h1, rfl, by cases h; rfl⟩
  · cases h
theorem zeroHd : (zeroB, false).1.length = 256 := by have := zero_size; rw [List.size_toArray, bc_length] at this; exact this
def IntOk (i : Int) : Prop := -9223372036854775808 ≤ i ∧ i ≤ 9223372036854775807
def ik (i : Int) : Lit := .int .i64 i
theorem ik_inj {i j : Int} (h : ik i = ik j) : i = j := by unfold ik at h; cases h; rfl
theorem ik_key (i : Int) : WideAt.IsKeyLit (ik i) := trivial
theorem wf_i64 {a : Int} (h : IntOk a) : (Lit.int .i64 a).wf = true := by
  unfold IntOk at h
  simp [Lit.wf, IntKind.min, IntKind.max, IntKind.signed, IntKind.bits]; omega
theorem keyInt : Keyed Try.prog 3 := int_keyed Try.underlying3
theorem keyOf_ik {i : Int} (h : IntOk i) : keyOf Try.prog 3 (.int .i64 i) = some (ik i) := keyOf_int_mk Try.underlying3 (wf_i64 h)
theorem keyOf_ik_inv {key : Value} {l : Lit} (h : keyOf Try.prog 3 key = some l) : ∃ i, IntOk i ∧ key = .int .i64 i ∧ l = ik i := by
  obtain ⟨x, h1, h2, h3⟩ := keyOf_int_inv Try.underlying3 h
  refine ⟨x, ?_, h1, h2⟩
  unfold IntOk
  simpa [Lit.wf, IntKind.min, IntKind.max, IntKind.signed, IntKind.bits] using h3
theorem ik_same (i j : Int) : (ik i).sameKey (ik j) = decide (i = j) := by
  by_cases h : i = j
  · subst h; rw [decide_eq_true rfl]; simp [ik, Lit.sameKey]
  · rw [decide_eq_false h]; exact sameKey_ne (fun e => h (ik_inj e))

/-- a map reads as what the cache has -/
structure HMap (N : Nat) (D : DataW Value) (f : Int → Option Hd) : Prop where
  has : ∀ i, Maps.has D (ik i) = (f i).isSome
  get : ∀ i x, f i = some x → ∀ z, D.atKey (ik i) z = .held (hvv x)
  dom : ∀ i x, f i = some x → (0 ≤ i ∧ i < N) ∧ x.1.length = 256
def putF (f : Int → Option Hd) (i : Int) (x : Hd) : Int → Option Hd := fun j => if j = i then some x else f j
def delF (f : Int → Option Hd) (i : Int) : Int → Option Hd := fun j => if j = i then none else f j
theorem HMap.empty (N : Nat) : HMap N (.map []) (fun _ => none) := ⟨fun i => rfl, fun i x h => (by cases h), fun i x h => (by cases h)⟩
theorem HMap.put {N : Nat} {D : DataW Value} {f : Int → Option Hd} (h : HMap N D f) (hm : IsMap D) {i : Int} (hi : 0 ≤ i ∧ i < N) {x : Hd} (hx : x.1.length = 256) : HMap N (D.put (ik i) (.held (hvv x))) (putF f i x) where
  has := fun j => by
    by_cases e : j = i
    · subst e; rw [has_put_same hm (ik_key j)]; simp [putF]
    · rw [has_put_other (fun c => e (ik_inj c)), h.has j]; simp [putF, e]
  get := fun j y hy z => by
    unfold putF at hy
    by_cases e : j = i
    · subst e; rw [if_pos rfl] at hy; cases hy; exact atKey_put_same hm (ik_key j) _ _
    · rw [if_neg e] at hy; rw [atKey_put_other (fun c => e (ik_inj c))]; exact h.get j y hy z
  dom := fun j y hy => by
    unfold putF at hy
    by_cases e : j = i
    · subst e; rw [if_pos rfl] at hy; cases hy; exact ⟨hi, hx⟩
    · rw [if_neg e] at hy; exact h.dom j y hy
theorem HMap.del {N : Nat} {D : DataW Value} {f : Int → Option Hd} (h : HMap N D f) (i : Int) : HMap N (D.del (ik i)) (delF f i) where
  has := fun j => by
    by_cases e : j = i
    · subst e; rw [has_del_same]; simp [delF]
    · rw [has_del_other (fun c => e (ik_inj c)), h.has j]; simp [delF, e]
  get := fun j y hy z => by
    unfold delF at hy
    by_cases e : j = i
    · subst e; rw [if_pos rfl] at hy; cases hy
    · rw [if_neg e] at hy; rw [atKey_del_other (fun c => e (ik_inj c))]; exact h.get j y hy z
  dom := fun j y hy => by
    unfold delF at hy
    by_cases e : j = i
    · subst e; rw [if_pos rfl] at hy; cases hy
    · rw [if_neg e] at hy; exact h.dom j y hy
theorem HMap.of_at {N : Nat} {D : DataW Value} {f : Int → Option Hd} (h : HMap N D f) {i : Int} {x : Hd} (ha : ∀ z, D.atKey (ik i) z = .held (hvv x)) : f i = some x := by
  have h1 := has_true_of_atKey ha
  rw [h.has i] at h1
  obtain ⟨y, hy⟩ := Option.isSome_iff_exists.1 h1
  have h2 := (h.get i y hy (.held undef)).symm.trans (ha (.held undef))
  rw [hy, hvv_inj (DataW.held.inj h2)]
/-- what a look at the map tells -/
theorem HMap.look {N : Nat} {D : DataW Value} {f : Int → Option Hd} (h : HMap N D f) (i : Int) {v : Value} {ps : List MemPlace} (hv : heldElem v = some (D.atKey (ik i) (.held (hvv (zeroB, false))), ps)) : v = hvv ((f i).getD (zeroB, false)) := by
  obtain ⟨x, _, rfl, hy⟩ := heldElem_inv hv
  have h1 : D.atKey (ik i) (.held (hvv (zeroB, false))) = .held (hvv x) := (Prod.ext_iff.1 hy).1
  cases e : f i with
  | none =>
    have h2 := h.has i
    rw [e] at h2
    rw [atKey_of_not_has h2] at h1
    rw [hvv_inj (DataW.held.inj h1.symm)]; rfl
  | some y =>
    rw [h.get i y e] at h1
    rw [hvv_inj (DataW.held.inj h1.symm)]; rfl
/-- a map reads as a set of blocks -/
def PMap (D : DataW Unit) (p : Int → Bool) : Prop := ∀ i, Maps.has D (ik i) = p i
def putP (p : Int → Bool) (i : Int) : Int → Bool := fun j => decide (j = i) || p j
def delP (p : Int → Bool) (i : Int) : Int → Bool := fun j => !decide (j = i) && p j
theorem PMap.put {D : DataW Unit} {p : Int → Bool} (h : PMap D p) (hm : IsMap D) (i : Int) (u : DataW Unit) : PMap (D.put (ik i) u) (putP p i) := fun j => by
  by_cases e : j = i
  · subst e; rw [has_put_same hm (ik_key j)]; simp [putP]
  · rw [has_put_other (fun c => e (ik_inj c)), h j]; simp [putP, e]
theorem PMap.del {D : DataW Unit} {p : Int → Bool} (h : PMap D p) (i : Int) : PMap (D.del (ik i)) (delP p i) := fun j => by
  by_cases e : j = i
  · subst e; rw [has_del_same]; simp [delP]
  · rw [has_del_other (fun c => e (ik_inj c)), h j]; simp [delP, e]
/-- what a cache is, plainly -/
structure CS where
  d : DS
  f : Int → Option Hd
  p : Int → Bool
/-- a cache's parts in memory -/
structure CParts (w : World) (C bm bp B : Nat) (S : List Nat) (n : Nat) (s : CS) : Prop where
  obj : w.heap[C]? = some (.cells #[.pointer (some ⟨B, 0, none⟩), .map (some bm), .map (some bp)] 73)
  disk : IsDisk w B S s.d
  has : ∃ D, w.ownsMap Try.prog 3 heldElem bm n D ∧ HMap s.d.safe.length D s.f
  pin : ∃ D, w.ownsMap Try.prog 3 (unitElem (H := Unit)) bp n D ∧ PMap D s.p
  cS : C ∉ S
  mS : bm ∉ S
  pS : bp ∉ S
  mp : bm ≠ bp
theorem ownsMap_touch {H : Type} {P : Program} {k : TypeId} {R : Value → Option (DataW H × List MemPlace)} {w w' : World} {b n : Nat} {D : DataW H} (h : w.ownsMap P k R b n D) {T : List Nat} (ht : Touch T w w') (hb : b ∉ T) : w'.ownsMap P k R b n D := by
  obtain ⟨es, clock, hm, hr⟩ := h
  exact ⟨es, clock, (ht.block b (Array.getElem?_eq_some_iff.1 hm).1 hb).trans hm, hr⟩
theorem ranges_touch {H : Type} {P : Program} {k : TypeId} {R : Value → Option (DataW H × List MemPlace)} {w w' : World} {b r n : Nat} {D : DataW H} {left : Lit → Bool} {cnt : Nat} (h : w.ranges P k R b r n D left cnt) {T : List Nat} (ht : Touch T w w') (hb : b ∉ T) (hr : r ∉ T) : w'.ranges P k R b r n D left cnt := by
  obtain ⟨es, clock, since, seen, c0, h1, h2, h3, h4, h5, h6⟩ := h
  exact ⟨es, clock, since, seen, c0, (ht.block b (Array.getElem?_eq_some_iff.1 h1).1 hb).trans h1, h2, h3, h4, (ht.block r (Array.getElem?_eq_some_iff.1 h5).1 hr).trans h5, h6⟩
theorem IsDisk.lt {w : World} {B : Nat} {S : List Nat} {d : DS} (h : IsDisk w B S d) : ∀ k ∈ S, k < w.heap.size := by
  obtain ⟨gs, cs, gl, cl, vw, h⟩ := h
  exact h.lt
theorem IsDisk.inB {w : World} {B : Nat} {S : List Nat} {d : DS} (h : IsDisk w B S d) : B ∈ S := by
  obtain ⟨gs, cs, gl, cl, vw, h⟩ := h
  exact h.inB
theorem IsDisk.one {w : World} {B : Nat} {S : List Nat} {d : DS} (h : IsDisk w B S d) : 1 ≤ d.safe.length ∧ d.safe.length ≤ 2048 ∧ d.last.length = d.safe.length := by
  obtain ⟨gs, cs, gl, cl, vw, h⟩ := h
  exact ⟨h.one, h.most, h.len⟩
theorem IsDisk.row {w : World} {B : Nat} {S : List Nat} {d : DS} (h : IsDisk w B S d) : ∀ x ∈ d.last, x.length = 256 := by
  obtain ⟨gs, cs, gl, cl, vw, h⟩ := h
  exact h.last.len256
theorem CParts.lt {w : World} {C bm bp B : Nat} {S : List Nat} {n : Nat} {s : CS} (h : CParts w C bm bp B S n s) : C < w.heap.size ∧ bm < w.heap.size ∧ bp < w.heap.size := by
  obtain ⟨D, h1, _⟩ := h.has
  obtain ⟨E, h2, _⟩ := h.pin
  exact ⟨(Array.getElem?_eq_some_iff.1 h.obj).1, h1.lt, h2.lt⟩
theorem CParts.ne {w : World} {C bm bp B : Nat} {S : List Nat} {n : Nat} {s : CS} (h : CParts w C bm bp B S n s) : C ≠ bm ∧ C ≠ bp := by
  have ho := h.obj
  constructor
  · rintro rfl
    obtain ⟨D, ⟨es, clock, hb, _⟩, _⟩ := h.has
    rw [hb] at ho; cases ho
  · rintro rfl
    obtain ⟨D, ⟨es, clock, hb, _⟩, _⟩ := h.pin
    rw [hb] at ho; cases ho
theorem CParts.kept {w w' : World} {C bm bp B : Nat} {S : List Nat} {n : Nat} {s : CS} (h : CParts w C bm bp B S n s) {T : List Nat} (ht : Touch T w w') (hn : ∀ k ∈ C :: bm :: bp :: S, k ∉ T) : CParts w' C bm bp B S n s :=
  { h with
    obj := (ht.block C h.lt.1 (hn C (by simp))).trans h.obj
    disk := h.disk.kept ht (fun k hk => hn k (by simp [hk]))
    has := by obtain ⟨D, h1, h2⟩ := h.has; exact ⟨D, ownsMap_touch h1 ht (hn bm (by simp)), h2⟩
    pin := by obtain ⟨D, h1, h2⟩ := h.pin; exact ⟨D, ownsMap_touch h1 ht (hn bp (by simp)), h2⟩ }
/-- a cache in memory: U are its blocks and its disk's -/
def IsCache (w : World) (C B : Nat) (U : List Nat) (n : Nat) (s : CS) : Prop := ∃ bm bp S, U = C :: bm :: bp :: S ∧ CParts w C bm bp B S n s
theorem IsCache.kept {w w' : World} {C B : Nat} {U : List Nat} {n : Nat} {s : CS} (h : IsCache w C B U n s) {T : List Nat} (ht : Touch T w w') (hn : ∀ k ∈ U, k ∉ T) : IsCache w' C B U n s := by
  obtain ⟨bm, bp, S, rfl, h⟩ := h
  exact ⟨bm, bp, S, rfl, h.kept ht hn⟩
theorem IsCache.grow {w w' : World} {C B : Nat} {U : List Nat} {n : Nat} {s : CS} (h : IsCache w C B U n s) (hg : Grow w w') : IsCache w' C B U n s := h.kept (Touch.of_below (S := []) hg) (by simp)
theorem IsCache.lt {w : World} {C B : Nat} {U : List Nat} {n : Nat} {s : CS} (h : IsCache w C B U n s) : ∀ k ∈ U, k < w.heap.size := by
  obtain ⟨bm, bp, S, rfl, h⟩ := h
  intro k hk
  simp only [List.mem_cons] at hk
  rcases hk with rfl | rfl | rfl | hk
  · exact h.lt.1
  · exact h.lt.2.1
  · exact h.lt.2.2
  · exact h.disk.lt k hk
theorem ownsMap_mono {H : Type} {P : Program} {k : TypeId} {R : Value → Option (DataW H × List MemPlace)} {w : World} {b n n' : Nat} {D : DataW H} (h : w.ownsMap P k R b n D) (hn : n ≤ n') : w.ownsMap P k R b n' D := h.mono hn
/-- the map of what it has was turned -/
theorem CParts.turned {w w' : World} {C bm bp B : Nat} {S : List Nat} {n : Nat} {s : CS} (h : CParts w C bm bp B S n s) {n' : Nat} (hn : n ≤ n') (hg : w.grownBy w' (some bm)) {D : DataW Value} (ho : w'.ownsMap Try.prog 3 heldElem bm n' D) {f' : Int → Option Hd} (hm : HMap s.d.safe.length D f') : CParts w' C bm bp B S n' { s with f := f' } := by
  have ht : Touch [bm] w w' := Touch.grown hg (fun k e => by cases e; simp)
  exact { h with
    obj := (ht.block C h.lt.1 (by simpa using h.ne.1)).trans h.obj
    disk := h.disk.kept ht (fun k hk hm => h.mS (List.mem_singleton.1 hm ▸ hk))
    has := ⟨D, ho, hm⟩
    pin := by obtain ⟨E, h1, h2⟩ := h.pin; exact ⟨E, (ownsMap_touch h1 ht (by simpa using h.mp.symm)).mono hn, h2⟩ }
/-- the map of what is pinned was turned -/
theorem CParts.pinned {w w' : World} {C bm bp B : Nat} {S : List Nat} {n : Nat} {s : CS} (h : CParts w C bm bp B S n s) {n' : Nat} (hn : n ≤ n') (hg : w.grownBy w' (some bp)) {D : DataW Unit} (ho : w'.ownsMap Try.prog 3 (unitElem (H := Unit)) bp n' D) {p' : Int → Bool} (hm : PMap D p') : CParts w' C bm bp B S n' { s with p := p' } := by
  have ht : Touch [bp] w w' := Touch.grown hg (fun k e => by cases e; simp)
  exact { h with
    obj := (ht.block C h.lt.1 (by simpa using h.ne.2)).trans h.obj
    disk := h.disk.kept ht (fun k hk hm => h.pS (List.mem_singleton.1 hm ▸ hk))
    has := by obtain ⟨E, h1, h2⟩ := h.has; exact ⟨E, (ownsMap_touch h1 ht (by simpa using h.mp)).mono hn, h2⟩
    pin := ⟨D, ho, hm⟩ }
#print axioms CParts.pinned
end Go.Proofs.Ytieknecbheeekaa
