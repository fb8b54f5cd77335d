/- Maps of ints as lists of what was put last; the keys of a map, rising; what a transaction has. -/
import Derived.Test.YtokehhegomiciaaCp
set_option linter.unusedVariables false
set_option linter.unusedSimpArgs false
namespace Go.Proofs.Ytokehhegomiciaa
open Go.RowKit Go.Maps

section
variable {α : Type}
def lookA (l : List (Int × α)) (i : Int) : Option α := (l.find? (fun p => decide (p.1 = i))).map (·.2)
def delA (l : List (Int × α)) (i : Int) : List (Int × α) := l.filter (fun p => decide (p.1 ≠ i))
def insA (l : List (Int × α)) (i : Int) (x : α) : List (Int × α) := delA l i ++ [(i, x)]
def keysA (l : List (Int × α)) : List Int := l.map (·.1)
theorem lookA_cons (p : Int × α) (l : List (Int × α)) (i : Int) : lookA (p :: l) i = if p.1 = i then some p.2 else lookA l i := by
  unfold lookA
  rw [List.find?_cons]
  by_cases h : p.1 = i <;> simp [h]
theorem lookA_append (l r : List (Int × α)) (i : Int) : lookA (l ++ r) i = (lookA l i).or (lookA r i) := by
  induction l with
  | nil => simp [lookA]
  | cons p l ih =>
    rw [List.cons_append, lookA_cons, lookA_cons, ih]
    by_cases h : p.1 = i <;> simp [h]
theorem lookA_none {l : List (Int × α)} {i : Int} (h : i ∉ keysA l) : lookA l i = none := by
  induction l with
  | nil => rfl
  | cons p l ih =>
    unfold keysA at h
    rw [List.map_cons, List.mem_cons, not_or] at h
    rw [lookA_cons, if_neg (fun e => h.1 e.symm)]
    exact ih h.2
theorem lookA_mem {l : List (Int × α)} (hn : (keysA l).Nodup) {p : Int × α} (h : p ∈ l) : lookA l p.1 = some p.2 := by
  induction l with
  | nil => cases h
  | cons q l ih =>
    unfold keysA at hn
    rw [List.map_cons, List.nodup_cons] at hn
    rw [lookA_cons]
    rcases List.mem_cons.1 h with rfl | h
    · rw [if_pos rfl]
    · rw [if_neg (fun e => hn.1 (by rw [e]; exact List.mem_map.2 ⟨p, h, rfl⟩))]
      exact ih hn.2 h
theorem lookA_isSome (l : List (Int × α)) (i : Int) : (lookA l i).isSome = decide (i ∈ keysA l) := by
  induction l with
  | nil => rfl
  | cons p l ih =>
    rw [lookA_cons]
    unfold keysA at *
    by_cases h : p.1 = i
    · subst h; simp
    · rw [if_neg h, ih, List.map_cons, decide_eq_decide, List.mem_cons]
      exact ⟨.inr, fun c => c.resolve_left fun e => h e.symm⟩
theorem keysA_del (l : List (Int × α)) (i : Int) : keysA (delA l i) = (keysA l).filter (fun j => decide (j ≠ i)) := by
  unfold keysA delA; rw [List.filter_map]; rfl
theorem mem_keysA_del {l : List (Int × α)} {i j : Int} : j ∈ keysA (delA l i) ↔ j ∈ keysA l ∧ j ≠ i := by rw [keysA_del]; simp
theorem keysA_ins (l : List (Int × α)) (i : Int) (x : α) : keysA (insA l i x) = keysA (delA l i) ++ [i] := by unfold insA keysA; simp
theorem mem_keysA_ins {l : List (Int × α)} {i j : Int} {x : α} : j ∈ keysA (insA l i x) ↔ j ∈ keysA l ∨ j = i := by
  rw [keysA_ins, List.mem_append, mem_keysA_del, List.mem_singleton]
  by_cases h : j = i <;> simp [h]
theorem lookA_del (l : List (Int × α)) (i : Int) : lookA (delA l i) = delG (lookA l) i := by
  funext j
  induction l with
  | nil => unfold delG; split <;> rfl
  | cons p l ih =>
    unfold delG at *
    by_cases h : p.1 = i
    · have : delA (p :: l) i = delA l i := by unfold delA; simp [h]
      rw [this, ih, lookA_cons]
      by_cases e : j = i
      · rw [if_pos e, if_pos e]
      · rw [if_neg e, if_neg e, if_neg (fun c => e (by rw [← c, h]))]
    · have : delA (p :: l) i = p :: delA l i := by unfold delA; simp [h]
      rw [this, lookA_cons, lookA_cons, ih]
      by_cases e : j = i
      · rw [if_pos e, if_pos e, if_neg (fun c => h (by rw [c, e]))]
      · rw [if_neg e, if_neg e]
theorem lookA_ins (l : List (Int × α)) (i : Int) (x : α) : lookA (insA l i x) = putG (lookA l) i x := by
  funext j
  unfold insA putG
  rw [lookA_append, lookA_del, lookA_cons]
  unfold delG
  by_cases e : j = i
  · rw [if_pos e, if_pos e, if_pos e.symm]; rfl
  · rw [if_neg e, if_neg e, if_neg (fun c => e c.symm)]; simp [lookA]
theorem keysA_length (l : List (Int × α)) : (keysA l).length = l.length := List.length_map _
theorem delA_nodup {l : List (Int × α)} (h : (keysA l).Nodup) (i : Int) : (keysA (delA l i)).Nodup := by rw [keysA_del]; exact h.filter _
theorem insA_nodup {l : List (Int × α)} (h : (keysA l).Nodup) (i : Int) (x : α) : (keysA (insA l i x)).Nodup := by
  rw [keysA_ins, List.nodup_append]
  refine ⟨delA_nodup h i, by simp, fun a ha b hb => ?_⟩
  rw [List.mem_singleton.1 hb]
  exact (mem_keysA_del.1 ha).2
theorem filter_ne_length {m : List Int} {i : Int} (hn : m.Nodup) : (m.filter (fun j => decide (j ≠ i))).length + (if i ∈ m then 1 else 0) = m.length := by
  induction m with
  | nil => simp
  | cons a m ih =>
    have h := List.nodup_cons.1 hn
    have ih := ih h.2
    by_cases e : a = i
    · subst e
      rw [List.filter_cons, if_neg (by simp), if_pos (by simp), List.length_cons]
      rw [if_neg h.1] at ih
      omega
    · rw [List.filter_cons, if_pos (by simp [e]), List.length_cons, List.length_cons]
      by_cases hm : i ∈ m
      · rw [if_pos hm] at ih; rw [if_pos (List.mem_cons_of_mem _ hm)]; omega
      · rw [if_neg hm] at ih; rw [if_neg (fun c => (List.mem_cons.1 c).elim (fun c => e c.symm) hm)]; omega
theorem delA_length {l : List (Int × α)} (hn : (keysA l).Nodup) (i : Int) : (delA l i).length + (if i ∈ keysA l then 1 else 0) = l.length := by
  rw [← keysA_length (delA l i), keysA_del, ← keysA_length l]
  exact filter_ne_length hn
theorem delA_le (l : List (Int × α)) (i : Int) : (delA l i).length ≤ l.length := List.length_filter_le _ _
theorem insA_le (l : List (Int × α)) (i : Int) (x : α) : (insA l i x).length ≤ l.length + 1 := by
  unfold insA; rw [List.length_append]; have := delA_le l i; simp; omega
variable {K : EK α} {D : DataW Value} {l : List (Int × α)}
/-- a map reads as a list -/
structure AMap (K : EK α) (D : DataW Value) (l : List (Int × α)) : Prop where
  g : GMap K D (lookA l)
  nd : (keysA l).Nodup
  size : Maps.size D = l.length
theorem AMap.empty (K : EK α) : AMap K (.map []) [] := ⟨GMap.empty K, List.nodup_nil, rfl⟩
theorem AMap.has (h : AMap K D l) (i : Int) : Maps.has D (ik i) = decide (i ∈ keysA l) := by rw [h.g.has, lookA_isSome]
theorem AMap.ok (h : AMap K D l) {i : Int} (hi : i ∈ keysA l) : IntOk i := by
  have h1 := lookA_isSome l i
  rw [decide_eq_true hi] at h1
  obtain ⟨x, hx⟩ := Option.isSome_iff_exists.1 h1
  exact (h.g.dom i x hx).1
theorem AMap.put (h : AMap K D l) (ht : Tidy D) {i : Int} (hi : IntOk i) {x : α} (hx : K.ok x) : AMap K (D.put (ik i) (.held (K.vv x))) (insA l i x) where
  g := by rw [lookA_ins]; exact h.g.put ht.isMap hi hx
  nd := insA_nodup h.nd i x
  size := by
    rw [size_put ht, h.has i, h.size]
    have := delA_length h.nd i
    unfold insA
    rw [List.length_append]
    by_cases hm : i ∈ keysA l
    · rw [if_pos hm] at this; simp [hm]; omega
    · rw [if_neg hm] at this; simp [hm]; omega
theorem AMap.del (h : AMap K D l) (ht : Tidy D) (i : Int) : AMap K (D.del (ik i)) (delA l i) where
  g := by rw [lookA_del]; exact h.g.del i
  nd := delA_nodup h.nd i
  size := by
    have h1 := size_del (k := ik i) ht
    have h2 := delA_length h.nd i
    rw [h.has i, h.size] at h1
    by_cases hm : i ∈ keysA l
    · rw [if_pos hm] at h2; simp [hm] at h1; omega
    · rw [if_neg hm] at h2; simp [hm] at h1; omega
end
/-- the kinds: blocks; nothing -/
def blkK : EK Blk where
  vv x := .agg (bc x).toArray
  ok x := x.length = 256
  inj a b h := by
    have h1 : (bc a).toArray = (bc b).toArray := by injection h
    exact bc_inj (List.toArray_inj h1)
def unitK : EK Unit where
  vv _ := .agg #[]
  ok _ := True
  inj a b _ := rfl
/-- the map in block b reads as l; there were at most N stores -/
def MapIs {α : Type} (w : World) (K : EK α) (b N : Nat) (l : List (Int × α)) : Prop := ∃ D, w.ownsMap Try.prog 3 K.elem b N D ∧ AMap K D l ∧ l.length ≤ N
theorem MapIs.mono {α : Type} {w : World} {K : EK α} {b N M : Nat} {l : List (Int × α)} (h : MapIs w K b N l) (hm : N ≤ M) : MapIs w K b M l := by
  obtain ⟨D, h1, h2, h3⟩ := h
  exact ⟨D, h1.mono hm, h2, by omega⟩
theorem MapIs.lt {α : Type} {w : World} {K : EK α} {b N : Nat} {l : List (Int × α)} (h : MapIs w K b N l) : b < w.heap.size := by
  obtain ⟨D, h1, _⟩ := h; exact h1.lt
theorem MapIs.kept {α : Type} {w w' : World} {K : EK α} {b N : Nat} {l : List (Int × α)} (h : MapIs w K b N l) {T : List Nat} (ht : Touch T w w') (hb : b ∉ T) : MapIs w' K b N l := by
  obtain ⟨D, h1, h2⟩ := h
  exact ⟨D, ownsMap_touch h1 ht hb, h2⟩
theorem MapIs.nodup {α : Type} {w : World} {K : EK α} {b N : Nat} {l : List (Int × α)} (h : MapIs w K b N l) : (keysA l).Nodup := by
  obtain ⟨D, _, h2, _⟩ := h; exact h2.nd
section
variable {α : Type} {K : EK α} {w : World} {ops : Array Oper} {rest : List Oper} {o : Oper} {a : Act} {Q : Exit → Act → World → Prop}
/-- 'm[i] = x' -/
theorem wpList_mapStore (hg : o.guard = none) (m x v : Operand) (t : TypeId) (hop : o.op = Op.mapUpdate t m x v) (e : TypeId) (ht : Try.prog.underlying t = some (.map 3 e)) (b N : Nat) (l : List (Int × α)) (hm : a.eval m = .map (some b)) (h : MapIs w K b N l) (hn : N ≤ 100000) (i : Int) (hi : IntOk i) (hx : a.eval x = .int .i64 i) (x0 : α) (hxo : K.ok x0) (hv : a.eval v = K.vv x0)
    (hK : ∀ w', MapIs w' K b (N + 1) (insA l i x0) → Touch [b] w w' → wpList Try.prog ops Q rest (a.put o.dst undef) w') : wpList Try.prog ops Q (o :: rest) a w := by
  obtain ⟨D, hown, hA, hle⟩ := h
  refine wpList_mapUpdate_in w hg m x v t hop 3 e keyInt ht K.elem b N D hm hown (by unfold maxLen; omega) _ _ (ik i) hx hv (keyOf_ik hi) _ [] (K.elem_mk x0 hxo) ?_
  intro w1 hown1 hturn1
  exact hK w1 ⟨_, hown1, hA.put (hown.tidy keyInt) hi hxo, by have := insA_le l i x0; omega⟩ (Touch.grown hturn1.grown (fun k e => by cases e; simp))
/-- 'delete(m, i)' -/
theorem wpList_mapDelete (hg : o.guard = none) (m x : Operand) (t : TypeId) (hop : o.op = Op.call { callee := Callee.builtin Builtin.delete, args := #[m, x], argTypes := #[t, 3] }) (e : TypeId) (ht : Try.prog.underlying t = some (.map 3 e)) (b N : Nat) (l : List (Int × α)) (hm : a.eval m = .map (some b)) (h : MapIs w K b N l) (i : Int) (hi : IntOk i) (hx : a.eval x = .int .i64 i)
    (hK : ∀ w', MapIs w' K b N (delA l i) → Touch [b] w w' → wpList Try.prog ops Q rest (a.put o.dst (.tuple #[])) w') : wpList Try.prog ops Q (o :: rest) a w := by
  obtain ⟨D, hown, hA, hle⟩ := h
  refine wpList_delete_own w hg m x t 3 hop e keyInt ht K.elem b N D hm hown _ (ik i) hx (keyOf_ik hi) ?_
  intro w1 hown1 hturn1
  exact hK w1 ⟨_, hown1, hA.del (hown.tidy keyInt) i, by have := delA_le l i; omega⟩ (Touch.grown hturn1.grown (fun k e => by cases e; simp))
/-- 'v, ok := m[i]' -/
theorem wpList_mapLookOk (hg : o.guard = none) (m x : Operand) (t : TypeId) (hop : o.op = Op.lookup t m x true) (e : TypeId) (ht : Try.prog.underlying t = some (.map 3 e)) (z : α) (hz : (zeroValue e).run Try.prog w = .ok (K.vv z) w) (hzo : K.ok z) (b N : Nat) (l : List (Int × α)) (hm : a.eval m = .map (some b)) (h : MapIs w K b N l) (i : Int) (hi : IntOk i) (hx : a.eval x = .int .i64 i)
    (hK : wpList Try.prog ops Q rest (a.put o.dst (.tuple #[K.vv ((lookA l i).getD z), .bool (decide (i ∈ keysA l))])) w) : wpList Try.prog ops Q (o :: rest) a w := by
  obtain ⟨D, hown, hA, hle⟩ := h
  rw [← lookA_isSome] at hK
  exact wpList_look_g_ok hg m x t hop 3 e keyInt ht z hz hzo b N D _ hm hown hA.g i hx (keyOf_ik hi) hK
/-- 'm[i]' -/
theorem wpList_mapLook (hg : o.guard = none) (m x : Operand) (t : TypeId) (hop : o.op = Op.lookup t m x false) (e : TypeId) (ht : Try.prog.underlying t = some (.map 3 e)) (z : α) (hz : (zeroValue e).run Try.prog w = .ok (K.vv z) w) (hzo : K.ok z) (b N : Nat) (l : List (Int × α)) (hm : a.eval m = .map (some b)) (h : MapIs w K b N l) (i : Int) (hi : IntOk i) (hx : a.eval x = .int .i64 i)
    (hK : wpList Try.prog ops Q rest (a.put o.dst (K.vv ((lookA l i).getD z))) w) : wpList Try.prog ops Q (o :: rest) a w := by
  obtain ⟨D, hown, hA, hle⟩ := h
  exact wpList_look_g hg m x t hop 3 e keyInt ht z hz hzo b N D _ hm hown hA.g i hx (keyOf_ik hi) hK
theorem MapIs.len {b N : Nat} {l : List (Int × α)} (h : MapIs w K b N l) {t e : TypeId} (ht : Try.prog.underlying t = some (.map 3 e)) (ty : TypeId) : (Builtin.len_ #[t] ty #[.map (some b)]).run Try.prog w = .ok (.int .i64 (l.length : Int)) w := by
  obtain ⟨D, hown, hA, hle⟩ := h
  rw [hown.len ht ty, hA.size]
end
theorem zeroB_ok : blkK.ok zeroB := List.length_replicate
theorem mapIs_new {α : Type} (K : EK α) (w : World) : MapIs (w.alloc (.map #[] 0)) K w.heap.size 0 [] := ⟨.map [], World.ownsMap_made w _ _ _, AMap.empty K, Nat.le_refl _⟩
def RowOfPost (zs : List Int) (w : World) (e : Ending) (w' : World) : Prop := ∃ v, e = .returned v ∧ IRow w' v zs ∧ Grow w w' ∧ ∀ g, v.ownBlock = some g → w.heap.size ≤ g
#print axioms wpList_mapStore
end Go.Proofs.Ytokehhegomiciaa
