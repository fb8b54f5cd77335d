/- Maps of ints to elements of one kind, read as plain functions; and the blocks that such a map has, rising. -/
import Derived.Test.YtokehhegomiciaaSort
import Derived.Test.YtokehhegomiciaaBlk
import Derived.Maps.RangeWalk
import Derived.Maps.OwnSet
set_option linter.unusedVariables false
set_option linter.unusedSimpArgs false
namespace Go.Proofs.Ytokehhegomiciaa
open Go.RowKit Go.Maps

theorem bc_inj {x y : Blk} (h : bc x = bc y) : x = y := by
  unfold bc at h
  exact (List.map_inj_right (fun a b hab => by have h2 := (Value.int.inj hab).2; omega)).1 h
def IntOk (i : Int) : Prop := -9223372036854775808 ≤ i ∧ i ≤ 9223372036854775807
def ik (i : Int) : Lit := .int .i64 i
theorem ik_inj {i j : Int} (h : ik i = ik j) : i = j := by unfold ik at h; cases h; rfl
theorem ik_key (i : Int) : WideAt.IsKeyLit (ik i) := trivial
theorem wf_i64 {a : Int} (h : IntOk a) : (Lit.int .i64 a).wf = true := by
  unfold IntOk at h
  simp [Lit.wf, IntKind.min, IntKind.max, IntKind.signed, IntKind.bits]; omega
theorem keyInt : Keyed Try.prog 3 := int_keyed Try.underlying3
theorem keyOf_ik {i : Int} (h : IntOk i) : keyOf Try.prog 3 (.int .i64 i) = some (ik i) := keyOf_int_mk Try.underlying3 (wf_i64 h)
theorem keyOf_ik_inv {key : Value} {l : Lit} (h : keyOf Try.prog 3 key = some l) : ∃ i, IntOk i ∧ key = .int .i64 i ∧ l = ik i := by
  obtain ⟨x, h1, h2, h3⟩ := keyOf_int_inv Try.underlying3 h
  refine ⟨x, ?_, h1, h2⟩
  unfold IntOk
  simpa [Lit.wf, IntKind.min, IntKind.max, IntKind.signed, IntKind.bits] using h3
theorem ik_same (i j : Int) : (ik i).sameKey (ik j) = decide (i = j) := by
  by_cases h : i = j
  · subst h; rw [decide_eq_true rfl]; simp [ik, Lit.sameKey]
  · rw [decide_eq_false h]; exact sameKey_ne (fun e => h (ik_inj e))

/-- a kind of element: what its values are -/
structure EK (α : Type) where
  vv : α → Value
  ok : α → Prop
  inj : ∀ a b, vv a = vv b → a = b
open Classical in
noncomputable def EK.elem {α : Type} (K : EK α) (v : Value) : Option (DataW Value × List MemPlace) := if ∃ x : α, K.ok x ∧ v = K.vv x then some (.held v, []) else none
theorem EK.elem_mk {α : Type} (K : EK α) (x : α) (h : K.ok x) : K.elem (K.vv x) = some (.held (K.vv x), []) := by unfold EK.elem; rw [if_pos ⟨x, h, rfl⟩]
theorem EK.elem_inv {α : Type} {K : EK α} {v : Value} {y : DataW Value × List MemPlace} (h : K.elem v = some y) : ∃ x : α, K.ok x ∧ v = K.vv x ∧ y = (.held (K.vv x), []) := by
  unfold EK.elem at h
  split at h
  · rename_i hc
    obtain ⟨x, h1, rfl⟩ := hc
    exact ⟨x, h1, rfl, by cases h; rfl⟩
  · cases h
/-- a map reads as a plain function -/
structure GMap {α : Type} (K : EK α) (D : DataW Value) (f : Int → Option α) : Prop where
  has : ∀ i, Maps.has D (ik i) = (f i).isSome
  get : ∀ i x, f i = some x → ∀ z, D.atKey (ik i) z = .held (K.vv x)
  dom : ∀ i x, f i = some x → IntOk i ∧ K.ok x
section
variable {α : Type} {K : EK α} {D : DataW Value} {f : Int → Option α}
def putG (f : Int → Option α) (i : Int) (x : α) : Int → Option α := fun j => if j = i then some x else f j
def delG (f : Int → Option α) (i : Int) : Int → Option α := fun j => if j = i then none else f j
theorem putG_same (f : Int → Option α) (i : Int) (x : α) : putG f i x i = some x := if_pos rfl
theorem putG_other (f : Int → Option α) {i j : Int} (x : α) (h : j ≠ i) : putG f i x j = f j := if_neg h
theorem delG_same (f : Int → Option α) (i : Int) : delG f i i = none := if_pos rfl
theorem delG_other (f : Int → Option α) {i j : Int} (h : j ≠ i) : delG f i j = f j := if_neg h
theorem GMap.empty (K : EK α) : GMap K (.map []) (fun _ => none) := ⟨fun i => rfl, fun i x h => (by cases h), fun i x h => (by cases h)⟩
theorem GMap.put (h : GMap K D f) (hm : IsMap D) {i : Int} (hi : IntOk i) {x : α} (hx : K.ok x) : GMap K (D.put (ik i) (.held (K.vv x))) (putG f i x) where
  has := fun j => by
    by_cases e : j = i
    · subst e; rw [has_put_same hm (ik_key j)]; simp [putG]
    · rw [has_put_other (fun c => e (ik_inj c)), h.has j]; simp [putG, e]
  get := fun j y hy z => by
    unfold putG at hy
    by_cases e : j = i
    · subst e; rw [if_pos rfl] at hy; cases hy; exact atKey_put_same hm (ik_key j) _ _
    · rw [if_neg e] at hy; rw [atKey_put_other (fun c => e (ik_inj c))]; exact h.get j y hy z
  dom := fun j y hy => by
    unfold putG at hy
    by_cases e : j = i
    · subst e; rw [if_pos rfl] at hy; cases hy; exact ⟨hi, hx⟩
    · rw [if_neg e] at hy; exact h.dom j y hy
theorem GMap.del (h : GMap K D f) (i : Int) : GMap K (D.del (ik i)) (delG f i) where
  has := fun j => by
    by_cases e : j = i
    · subst e; rw [has_del_same]; simp [delG]
    · rw [has_del_other (fun c => e (ik_inj c)), h.has j]; simp [delG, e]
  get := fun j y hy z => by
    unfold delG at hy
    by_cases e : j = i
    · subst e; rw [if_pos rfl] at hy; cases hy
    · rw [if_neg e] at hy; rw [atKey_del_other (fun c => e (ik_inj c))]; exact h.get j y hy z
  dom := fun j y hy => by
    unfold delG at hy
    by_cases e : j = i
    · subst e; rw [if_pos rfl] at hy; cases hy
    · rw [if_neg e] at hy; exact h.dom j y hy
theorem GMap.of_at (h : GMap K D f) {i : Int} {x : α} (ha : ∀ z, D.atKey (ik i) z = .held (K.vv x)) : f i = some x := by
  have h1 := has_true_of_atKey ha
  rw [h.has i] at h1
  obtain ⟨y, hy⟩ := Option.isSome_iff_exists.1 h1
  have h2 := (h.get i y hy (.held undef)).symm.trans (ha (.held undef))
  rw [hy, K.inj _ _ (DataW.held.inj h2)]
/-- what a look at the map tells, where z is the zero value -/
theorem GMap.look (h : GMap K D f) (z : α) (i : Int) {v : Value} {ps : List MemPlace} (hv : K.elem v = some (D.atKey (ik i) (.held (K.vv z)), ps)) : v = K.vv ((f i).getD z) := by
  obtain ⟨x, _, rfl, hy⟩ := EK.elem_inv hv
  have h1 : D.atKey (ik i) (.held (K.vv z)) = .held (K.vv x) := (Prod.ext_iff.1 hy).1
  cases e : f i with
  | none =>
    have h2 := h.has i
    rw [e] at h2
    rw [atKey_of_not_has h2] at h1
    rw [K.inj _ _ (DataW.held.inj h1.symm)]; rfl
  | some y =>
    rw [h.get i y e] at h1
    rw [K.inj _ _ (DataW.held.inj h1.symm)]; rfl
end
/-- 'm[k]' of a map of one kind of elements -/
theorem wpList_look_g {α : Type} {K : EK α} {P : Program} {w : World} {ops : Array Oper} {rest : List Oper} {o : Oper} {a : Act} {Q : Exit → Act → World → Prop} (hg : o.guard = none) (m x : Operand) (t : TypeId) (hop : o.op = Op.lookup t m x false)
    (k e : TypeId) (hk : Keyed P k) (ht : P.underlying t = some (.map k e)) (z : α) (hz : (zeroValue e).run P w = .ok (K.vv z) w) (hzo : K.ok z) (b n : Nat) (D : DataW Value) (f : Int → Option α) (hm : a.eval m = .map (some b)) (hown : w.ownsMap P k K.elem b n D) (hf : GMap K D f) (i : Int) (hx : a.eval x = .int .i64 i) (hkey : keyOf P k (.int .i64 i) = some (ik i))
    (hK : wpList P ops Q rest (a.put o.dst (K.vv ((f i).getD z))) w) : wpList P ops Q (o :: rest) a w := by
  refine wpList_plain hg fun K' hK' => ?_
  obtain ⟨v, ps, hrun, hv⟩ := hown.lookup hk ht hz (K.elem_mk z hzo) hkey
  obtain rfl := hf.look z i hv
  unfold Oper.wp
  simp [execOp, hop, hm, hx, hrun, Result.andThen]
  exact hK' _ _ hK
/-- 'v, ok := m[k]' -/
theorem wpList_look_g_ok {α : Type} {K : EK α} {P : Program} {w : World} {ops : Array Oper} {rest : List Oper} {o : Oper} {a : Act} {Q : Exit → Act → World → Prop} (hg : o.guard = none) (m x : Operand) (t : TypeId) (hop : o.op = Op.lookup t m x true)
    (k e : TypeId) (hk : Keyed P k) (ht : P.underlying t = some (.map k e)) (z : α) (hz : (zeroValue e).run P w = .ok (K.vv z) w) (hzo : K.ok z) (b n : Nat) (D : DataW Value) (f : Int → Option α) (hm : a.eval m = .map (some b)) (hown : w.ownsMap P k K.elem b n D) (hf : GMap K D f) (i : Int) (hx : a.eval x = .int .i64 i) (hkey : keyOf P k (.int .i64 i) = some (ik i))
    (hK : wpList P ops Q rest (a.put o.dst (.tuple #[K.vv ((f i).getD z), .bool (f i).isSome])) w) : wpList P ops Q (o :: rest) a w := by
  refine wpList_lookup_own_ok _ hg m x _ hop k e hk ht K.elem hz (.held (K.vv z)) [] (K.elem_mk z hzo) b n D hm hown _ (ik i) hx hkey ?_
  intro v ps hv
  rw [hf.look z i hv, hf.has i]
  exact hK
theorem ownsMap_touch {H : Type} {P : Program} {k : TypeId} {R : Value → Option (DataW H × List MemPlace)} {w w' : World} {b n : Nat} {D : DataW H} (h : w.ownsMap P k R b n D) {T : List Nat} (ht : Touch T w w') (hb : b ∉ T) : w'.ownsMap P k R b n D := by
  obtain ⟨es, clock, hm, hr⟩ := h
  exact ⟨es, clock, (ht.block b (Array.getElem?_eq_some_iff.1 hm).1 hb).trans hm, hr⟩
theorem ranges_touch {H : Type} {P : Program} {k : TypeId} {R : Value → Option (DataW H × List MemPlace)} {w w' : World} {b r n : Nat} {D : DataW H} {left : Lit → Bool} {cnt : Nat} (h : w.ranges P k R b r n D left cnt) {T : List Nat} (ht : Touch T w w') (hb : b ∉ T) (hr : r ∉ T) : w'.ranges P k R b r n D left cnt := by
  obtain ⟨es, clock, since, seen, c0, h1, h2, h3, h4, h5, h6⟩ := h
  exact ⟨es, clock, since, seen, c0, (ht.block b (Array.getElem?_eq_some_iff.1 h1).1 hb).trans h1, h2, h3, h4, (ht.block r (Array.getElem?_eq_some_iff.1 h5).1 hr).trans h5, h6⟩

/-! ### the keys of a map, rising -/
theorem sorted_unique : ∀ (a b : List Int), a.Perm b → a.Pairwise (· ≤ ·) → b.Pairwise (· ≤ ·) → a = b := by
  intro a b hp ha hb
  exact List.Perm.eq_of_pairwise (le := (· ≤ ·)) (fun x y _ _ h1 h2 => by omega) ha hb hp
/-- zs: just the numbers that p chooses, rising -/
structure Rising (p : Int → Bool) (zs : List Int) : Prop where
  lt : zs.Pairwise (· < ·)
  mem : ∀ i, i ∈ zs ↔ p i = true
theorem Rising.nodup {p : Int → Bool} {zs : List Int} (h : Rising p zs) : zs.Nodup := h.lt.imp (fun h => by omega)
theorem Rising.unique {p : Int → Bool} {a b : List Int} (ha : Rising p a) (hb : Rising p b) : a = b :=
  sorted_unique a b ((List.perm_ext_iff_of_nodup ha.nodup hb.nodup).2 fun i => by rw [ha.mem, hb.mem]) (ha.lt.imp fun h => by omega) (hb.lt.imp fun h => by omega)
/-- what a walk over a map has collected -/
structure Coll (p : Int → Bool) (left : Lit → Bool) (zs : List Int) : Prop where
  mem : ∀ i, i ∈ zs ↔ p i = true ∧ left (ik i) = false
  nodup : zs.Nodup
theorem Coll.start {p : Int → Bool} {left : Lit → Bool} (h : ∀ i, left (ik i) = p i) : Coll p left [] where
  mem := fun i => ⟨fun h => (by cases h), fun ⟨h1, h2⟩ => by rw [h i, h1] at h2; cases h2⟩
  nodup := List.nodup_nil
theorem Coll.other {p : Int → Bool} {left : Lit → Bool} {zs : List Int} (h : Coll p left zs) {x : Int} (hs : p x = false) : Coll p (fun z => left z && !z.sameKey (ik x)) zs :=
  { h with
    mem := fun i => by
      rw [h.mem i, ik_same]
      by_cases e : i = x
      · subst e; simp [hs]
      · simp [e] }
theorem Coll.more {p : Int → Bool} {left : Lit → Bool} {zs : List Int} (h : Coll p left zs) {x : Int} (hs : p x = true) (hl : left (ik x) = true) : Coll p (fun z => left z && !z.sameKey (ik x)) (zs ++ [x]) :=
  { h with
    mem := fun i => by
      rw [List.mem_append, List.mem_singleton, h.mem i, ik_same]
      by_cases e : i = x
      · subst e; simp [hs]
      · simp [e]
    nodup := by
      rw [List.nodup_append]
      refine ⟨h.nodup, by simp, fun a ha b hb e => ?_⟩
      rw [List.mem_singleton.1 hb] at e
      subst e
      have := ((h.mem _).1 ha).2
      rw [hl] at this; cases this }
theorem pair_lt_of : ∀ (l : List Int), l.Pairwise (· ≤ ·) → l.Nodup → l.Pairwise (· < ·) := by
  intro l h1 h2
  exact (List.Pairwise.and h1 h2).imp (fun ⟨a, b⟩ => by omega)
theorem Coll.done {p : Int → Bool} {left : Lit → Bool} {zs : List Int} (h : Coll p left zs) (hl : ∀ l, left l = false) : Rising p (sortI zs) where
  lt := pair_lt_of _ (sortI_sorted zs) ((sortI_perm zs).nodup_iff.2 h.nodup)
  mem := fun i => by rw [(sortI_perm zs).mem_iff, h.mem i]; exact ⟨fun h1 => h1.1, fun h1 => ⟨h1, hl _⟩⟩
theorem nodup_sub : ∀ (a b : List Int), a.Nodup → (∀ x ∈ a, x ∈ b) → a.length ≤ b.length := by
  intro a
  induction a with
  | nil => intro b _ _; simp
  | cons x a ih =>
    intro b hn hs
    have h1 := List.nodup_cons.1 hn
    have hx := hs x (by simp)
    have := ih (b.erase x) h1.2 (fun y hy => (List.mem_erase_of_ne (by rintro rfl; exact h1.1 hy)).2 (hs y (by simp [hy])))
    rw [List.length_erase_of_mem hx] at this
    have := List.length_pos_of_mem hx
    simp; omega
#print axioms Coll.done
end Go.Proofs.Ytokehhegomiciaa
