/- Maps of ints as lists of what was put last; the keys of a map, rising; what a transaction has. -/
import Derived.Test.YtnogajnoghjmhaaMaps
import Derived.Test.YtnogajnoghjmhaaRev
set_option linter.unusedVariables false
set_option linter.unusedSimpArgs false
namespace Go.Proofs.Ytnogajnoghjmhaa
open Go.RowKit Go.Maps

section
variable {α : Type}
def lookA (l : List (Int × α)) (i : Int) : Option α := (l.find? (fun p => decide (p.1 = i))).map (·.2)
def delA (l : List (Int × α)) (i : Int) : List (Int × α) := l.filter (fun p => decide (p.1 ≠ i))
def insA (l : List (Int × α)) (i : Int) (x : α) : List (Int × α) := delA l i ++ [(i, x)]
def keysA (l : List (Int × α)) : List Int := l.map (·.1)
theorem lookA_cons (p : Int × α) (l : List (Int × α)) (i : Int) : lookA (p :: l) i = if p.1 = i then some p.2 else lookA l i := by
  unfold lookA
  rw [List.find?_cons]
  by_cases h : p.1 = i <;> simp [h]
theorem lookA_append (l r : List (Int × α)) (i : Int) : lookA (l ++ r) i = (lookA l i).or (lookA r i) := by
  induction l with
  | nil => simp [lookA]
  | cons p l ih =>
    rw [List.cons_append, lookA_cons, lookA_cons, ih]
    by_cases h : p.1 = i <;> simp [h]
theorem lookA_none {l : List (Int × α)} {i : Int} (h : i ∉ keysA l) : lookA l i = none := by
  induction l with
  | nil => rfl
  | cons p l ih =>
    unfold keysA at h
    rw [List.map_cons, List.mem_cons, not_or] at h
    rw [lookA_cons, if_neg (fun e => h.1 e.symm)]
    exact ih h.2
theorem lookA_mem {l : List (Int × α)} (hn : (keysA l).Nodup) {p : Int × α} (h : p ∈ l) : lookA l p.1 = some p.2 := by
  induction l with
  | nil => cases h
  | cons q l ih =>
    unfold keysA at hn
    rw [List.map_cons, List.nodup_cons] at hn
    rw [lookA_cons]
    rcases List.mem_cons.1 h with rfl | h
    · rw [if_pos rfl]
    · rw [if_neg (fun e => hn.1 (by rw [e]; exact List.mem_map.2 ⟨p, h, rfl⟩))]
      exact ih hn.2 h
theorem lookA_isSome (l : List (Int × α)) (i : Int) : (lookA l i).isSome = decide (i ∈ keysA l) := by
  induction l with
  | nil => rfl
  | cons p l ih =>
    rw [lookA_cons]
    unfold keysA at *
    by_cases h : p.1 = i
    · subst h; simp
    · rw [if_neg h, ih, List.map_cons, decide_eq_decide, List.mem_cons]
      exact ⟨.inr, fun c => c.resolve_left fun e => h e.symm⟩
theorem keysA_del (l : List (Int × α)) (i : Int) : keysA (delA l i) = (keysA l).filter (fun j => decide (j ≠ i)) := by
  unfold keysA delA; rw [List.filter_map]; rfl
theorem mem_keysA_del {l : List (Int × α)} {i j : Int} : j ∈ keysA (delA l i) ↔ j ∈ keysA l ∧ j ≠ i := by rw [keysA_del]; simp
theorem keysA_ins (l : List (Int × α)) (i : Int) (x : α) : keysA (insA l i x) = keysA (delA l i) ++ [i] := by unfold insA keysA; simp
theorem mem_keysA_ins {l : List (Int × α)} {i j : Int} {x : α} : j ∈ keysA (insA l i x) ↔ j ∈ keysA l ∨ j = i := by
  rw [keysA_ins, List.mem_append, mem_keysA_del, List.mem_singleton]
  by_cases h : j = i <;> simp [h]
theorem lookA_del (l : List (Int × α)) (i : Int) : lookA (delA l i) = delG (lookA l) i := by
  funext j
  induction l with
  | nil => unfold delG; split <;> rfl
  | cons p l ih =>
    unfold delG at *
    by_cases h : p.1 = i
    · have : delA (p :: l) i = delA l i := by unfold delA; simp [h]
      rw [this, ih, lookA_cons]
      by_cases e : j = i
      · rw [if_pos e, if_pos e]
      · rw [if_neg e, if_neg e, if_neg (fun c => e (by rw [← c, h]))]
    · have : delA (p :: l) i = p :: delA l i := by unfold delA; simp [h]
      rw [this, lookA_cons, lookA_cons, ih]
      by_cases e : j = i
      · rw [if_pos e, if_pos e, if_neg (fun c => h (by rw [c, e]))]
      · rw [if_neg e, if_neg e]
theorem lookA_ins (l : List (Int × α)) (i : Int) (x : α) : lookA (insA l i x) = putG (lookA l) i x := by
  funext j
  unfold insA putG
  rw [lookA_append, lookA_del, lookA_cons]
  unfold delG
  by_cases e : j = i
  · rw [if_pos e, if_pos e, if_pos e.symm]; rfl
  · rw [if_neg e, if_neg e, if_neg (fun c => e c.symm)]; simp [lookA]
theorem keysA_length (l : List (Int × α)) : (keysA l).length = l.length := List.length_map _
theorem delA_nodup {l : List (Int × α)} (h : (keysA l).Nodup) (i : Int) : (keysA (delA l i)).Nodup := by rw [keysA_del]; exact h.filter _
theorem insA_nodup {l : List (Int × α)} (h : (keysA l).Nodup) (i : Int) (x : α) : (keysA (insA l i x)).Nodup := by
  rw [keysA_ins, List.nodup_append]
  refine ⟨delA_nodup h i, by simp, fun a ha b hb => ?_⟩
  rw [List.mem_singleton.1 hb]
  exact (mem_keysA_del.1 ha).2
theorem filter_ne_length {m : List Int} {i : Int} (hn : m.Nodup) : (m.filter (fun j => decide (j ≠ i))).length + (if i ∈ m then 1 else 0) = m.length := by
  induction m with
  | nil => simp
  | cons a m ih =>
    have h := List.nodup_cons.1 hn
    have ih := ih h.2
    by_cases e : a = i
    · subst e
      rw [List.filter_cons, if_neg (by simp), if_pos (by simp), List.length_cons]
      rw [if_neg h.1] at ih
      omega
    · rw [List.filter_cons, if_pos (by simp [e]), List.length_cons, List.length_cons]
      by_cases hm : i ∈ m
      · rw [if_pos hm] at ih; rw [if_pos (List.mem_cons_of_mem _ hm)]; omega
      · rw [if_neg hm] at ih; rw [if_neg (fun c => (List.mem_cons.1 c).elim (fun c => e c.symm) hm)]; omega
theorem delA_length {l : List (Int × α)} (hn : (keysA l).Nodup) (i : Int) : (delA l i).length + (if i ∈ keysA l then 1 else 0) = l.length := by
  rw [← keysA_length (delA l i), keysA_del, ← keysA_length l]
  exact filter_ne_length hn
theorem delA_le (l : List (Int × α)) (i : Int) : (delA l i).length ≤ l.length := List.length_filter_le _ _
theorem insA_le (l : List (Int × α)) (i : Int) (x : α) : (insA l i x).length ≤ l.length + 1 := by
  unfold insA; rw [List.length_append]; have := delA_le l i; simp; omega
variable {K : EK α} {D : DataW Value} {l : List (Int × α)}
/-- a map reads as a list -/
structure AMap (K : EK α) (D : DataW Value) (l : List (Int × α)) : Prop where
  g : GMap K D (lookA l)
  nd : (keysA l).Nodup
  size : Maps.size D = l.length
theorem AMap.empty (K : EK α) : AMap K (.map []) [] := ⟨GMap.empty K, List.nodup_nil, rfl⟩
theorem AMap.has (h : AMap K D l) (i : Int) : Maps.has D (ik i) = decide (i ∈ keysA l) := by rw [h.g.has, lookA_isSome]
theorem AMap.ok (h : AMap K D l) {i : Int} (hi : i ∈ keysA l) : IntOk i := by
  have h1 := lookA_isSome l i
  rw [decide_eq_true hi] at h1
  obtain ⟨x, hx⟩ := Option.isSome_iff_exists.1 h1
  exact (h.g.dom i x hx).1
theorem AMap.put (h : AMap K D l) (ht : Tidy D) {i : Int} (hi : IntOk i) {x : α} (hx : K.ok x) : AMap K (D.put (ik i) (.held (K.vv x))) (insA l i x) where
  g := by rw [lookA_ins]; exact h.g.put ht.isMap hi hx
  nd := insA_nodup h.nd i x
  size := by
    rw [size_put ht, h.has i, h.size]
    have := delA_length h.nd i
    unfold insA
    rw [List.length_append]
    by_cases hm : i ∈ keysA l
    · rw [if_pos hm] at this; simp [hm]; omega
    · rw [if_neg hm] at this; simp [hm]; omega
theorem AMap.del (h : AMap K D l) (ht : Tidy D) (i : Int) : AMap K (D.del (ik i)) (delA l i) where
  g := by rw [lookA_del]; exact h.g.del i
  nd := delA_nodup h.nd i
  size := by
    have h1 := size_del (k := ik i) ht
    have h2 := delA_length h.nd i
    rw [h.has i, h.size] at h1
    by_cases hm : i ∈ keysA l
    · rw [if_pos hm] at h2; simp [hm] at h1; omega
    · rw [if_neg hm] at h2; simp [hm] at h1; omega
end
/-- the kinds: blocks; nothing -/
def blkK : EK Blk where
  vv x := .agg (bc x).toArray
  ok x := x.length = 256
  inj a b h := by
    have h1 : (bc a).toArray = (bc b).toArray := by injection h
    exact bc_inj (List.toArray_inj h1)
def unitK : EK Unit where
  vv _ := .agg #[]
  ok _ := True
  inj a b _ := rfl
/-- the map in block b reads as l; there were at most N stores -/
def MapIs {α : Type} (w : World) (K : EK α) (b N : Nat) (l : List (Int × α)) : Prop := ∃ D, w.ownsMap Try.prog 3 K.elem b N D ∧ AMap K D l ∧ l.length ≤ N
theorem MapIs.mono {α : Type} {w : World} {K : EK α} {b N M : Nat} {l : List (Int × α)} (h : MapIs w K b N l) (hm : N ≤ M) : MapIs w K b M l := by
  obtain ⟨D, h1, h2, h3⟩ := h
  exact ⟨D, h1.mono hm, h2, by omega⟩
theorem MapIs.lt {α : Type} {w : World} {K : EK α} {b N : Nat} {l : List (Int × α)} (h : MapIs w K b N l) : b < w.heap.size := by
  obtain ⟨D, h1, _⟩ := h; exact h1.lt
theorem MapIs.kept {α : Type} {w w' : World} {K : EK α} {b N : Nat} {l : List (Int × α)} (h : MapIs w K b N l) {T : List Nat} (ht : Touch T w w') (hb : b ∉ T) : MapIs w' K b N l := by
  obtain ⟨D, h1, h2⟩ := h
  exact ⟨D, ownsMap_touch h1 ht hb, h2⟩
theorem MapIs.nodup {α : Type} {w : World} {K : EK α} {b N : Nat} {l : List (Int × α)} (h : MapIs w K b N l) : (keysA l).Nodup := by
  obtain ⟨D, _, h2, _⟩ := h; exact h2.nd
/-- the records of one number: their blocks, rising -/
structure RvIs (w : World) (B bm N seq : Nat) (zs : List Int) : Prop where
  tab : ∃ m, Rev.Tab w B bm N m ∧ m.Nodup ∧ m.Perm (zs.map fun z => (z, seq))
  lt : zs.Pairwise (· < ·)
  ok : ∀ z ∈ zs, IntOk z ∧ 0 ≤ z
  le : zs.length ≤ N
theorem RvIs.kept {w w' : World} {B bm N seq : Nat} {zs : List Int} (h : RvIs w B bm N seq zs) {T : List Nat} (ht : Touch T w w') (h1 : B ∉ T) (h2 : bm ∉ T) : RvIs w' B bm N seq zs := by
  obtain ⟨m, t, r⟩ := h.tab
  exact { h with tab := ⟨m, t.kept ht h1 h2, r⟩ }
theorem RvIs.mono {w : World} {B bm N M seq : Nat} {zs : List Int} (h : RvIs w B bm N seq zs) (hm : N ≤ M) : RvIs w B bm M seq zs := by
  obtain ⟨m, ⟨t, D, r, s⟩, q⟩ := h.tab
  exact { h with tab := ⟨m, ⟨t, D, r.mono hm, s⟩, q⟩, le := by have := h.le; omega }
def delS (zs : List Int) (b : Int) : List Int := zs.filter fun z => decide (z ≠ b)
def insS (zs : List Int) (b : Int) : List Int := sortI (delS zs b ++ [b])
theorem mem_delS {zs : List Int} {b z : Int} : z ∈ delS zs b ↔ z ∈ zs ∧ z ≠ b := by unfold delS; simp
theorem mem_insS {zs : List Int} {b z : Int} : z ∈ insS zs b ↔ z ∈ zs ∨ z = b := by
  unfold insS
  rw [(sortI_perm _).mem_iff, List.mem_append, mem_delS, List.mem_singleton]
  by_cases h : z = b <;> simp [h]
theorem delS_lt {zs : List Int} (h : zs.Pairwise (· < ·)) (b : Int) : (delS zs b).Pairwise (· < ·) := h.filter _
theorem insS_lt {zs : List Int} (h : zs.Pairwise (· < ·)) (b : Int) : (insS zs b).Pairwise (· < ·) := by
  refine pair_lt_of _ (sortI_sorted _) ((sortI_perm _).nodup_iff.2 ?_)
  rw [List.nodup_append]
  refine ⟨(delS_lt h b).imp (fun h => by omega), by simp, fun a ha c hc => ?_⟩
  rw [List.mem_singleton.1 hc]
  exact (mem_delS.1 ha).2
theorem delR_map (zs : List Int) (b : Int) (s : Nat) : Rev.delR (zs.map fun z => (z, s)) (b, s) = (delS zs b).map fun z => (z, s) := by
  unfold Rev.delR delS
  rw [List.filter_map]
  congr 1
  refine List.filter_congr fun z _ => ?_
  simp [Function.comp]
theorem Rev.delR_perm {m m' : List Rev.Rc} (h : m.Perm m') (r : Rev.Rc) : (Rev.delR m r).Perm (Rev.delR m' r) := h.filter _
theorem ofR_perm {m : List Rev.Rc} {zs : List Int} {s : Nat} (h : m.Perm (zs.map fun z => (z, s))) : (Rev.ofR m s).Perm zs := by
  unfold Rev.ofR
  refine ((h.filter _).map _).trans ?_
  rw [List.filter_eq_self.2 (by intro r hr; obtain ⟨z, _, rfl⟩ := List.mem_map.1 hr; simp), List.map_map]
  rw [show ((fun x : Rev.Rc => x.1) ∘ fun z => (z, s)) = id from rfl, List.map_id]
theorem sortI_self {zs : List Int} (h : zs.Pairwise (· < ·)) : sortI zs = zs := sorted_unique _ _ (sortI_perm zs) (sortI_sorted zs) (h.imp fun h => by omega)
theorem sortI_ofR {m : List Rev.Rc} {zs : List Int} {s : Nat} (h : m.Perm (zs.map fun z => (z, s))) (hl : zs.Pairwise (· < ·)) : sortI (Rev.ofR m s) = zs :=
  sorted_unique _ _ ((sortI_perm _).trans (ofR_perm h)) (sortI_sorted _) (hl.imp fun h => by omega)
#print axioms sortI_ofR
end Go.Proofs.Ytnogajnoghjmhaa
