/- What transactions come to, gone through twice; copies over an image twice: the plain law. -/
import Derived.Test.YtlhhbkpocpnebaaP22
set_option linter.unusedVariables false
set_option linter.unusedSimpArgs false
namespace Go.Proofs.Ytlhhbkpocpnebaa
open Go.RowKit Go.Maps

/-- does a transaction name a block? -/
def NmT (t : PT) (i : Int) : Prop := i ∈ t.cs.map (·.1) ∨ i ∈ t.rs
theorem putsG_named {f f' : PM} {i : Int} : ∀ (cs : List Cp), i ∈ cs.map (·.1) ∨ f i = f' i → putsG f cs i = putsG f' cs i := by
  intro cs
  induction cs generalizing f f' with
  | nil => intro h; rcases h with h | h; simp at h; exact h
  | cons c cs ih =>
    intro h
    refine ih (f := putG f c.1 c) (f' := putG f' c.1 c) ?_
    by_cases e : i = c.1
    · right; rw [e, putG_same, putG_same]
    · rcases h with h | h
      · left; simpa [e] using h
      · right; rw [putG_other _ _ e, putG_other _ _ e, h]
theorem putsG_other {f : PM} {i : Int} : ∀ (cs : List Cp), i ∉ cs.map (·.1) → putsG f cs i = f i := by
  intro cs
  induction cs generalizing f with
  | nil => intro _; rfl
  | cons c cs ih =>
    intro h
    simp only [List.map_cons, List.mem_cons, not_or] at h
    exact (ih (f := putG f c.1 c) h.2).trans (putG_other _ _ h.1)
theorem delsG_same {f f' : PM} {i : Int} : ∀ (rs : List Int), f i = f' i → delsG f rs i = delsG f' rs i := by
  intro rs
  induction rs generalizing f f' with
  | nil => intro h; exact h
  | cons r rs ih =>
    intro h
    refine ih (f := delG f r) (f' := delG f' r) ?_
    by_cases e : i = r
    · rw [e, delG_same, delG_same]
    · rw [delG_other _ e, delG_other _ e, h]
theorem delsG_other {f : PM} {i : Int} : ∀ (rs : List Int), i ∉ rs → delsG f rs i = f i := by
  intro rs
  induction rs generalizing f with
  | nil => intro _; rfl
  | cons r rs ih =>
    intro h
    simp only [List.mem_cons, not_or] at h
    exact (ih (f := delG f r) h.2).trans (delG_other _ h.1)
theorem ovT_named {f f' : PM} {t : PT} {i : Int} (h : NmT t i ∨ f i = f' i) : ovT f t i = ovT f' t i := by
  unfold ovT
  rcases h with (h | h) | h
  · exact delsG_same _ (putsG_named _ (.inl h))
  · rw [delsG_none _ (.inr h), delsG_none _ (.inr h)]
  · exact delsG_same _ (putsG_named _ (.inr h))
theorem ovT_other {f : PM} {t : PT} {i : Int} (h : ¬ NmT t i) : ovT f t i = f i := by
  unfold ovT NmT at *
  rw [not_or] at h
  rw [delsG_other _ h.2, putsG_other _ h.1]
theorem foldT_named {i : Int} : ∀ (l : List PT) {f f' : PM}, (∃ t ∈ l, NmT t i) ∨ f i = f' i → l.foldl ovT f i = l.foldl ovT f' i := by
  intro l
  induction l with
  | nil => intro f f' h; rcases h with ⟨t, ht, _⟩ | h; simp at ht; exact h
  | cons t l ih =>
    intro f f' h
    refine ih (f := ovT f t) (f' := ovT f' t) ?_
    rcases h with ⟨u, hu, hn⟩ | h
    · rcases List.mem_cons.1 hu with rfl | hu
      · exact .inr (ovT_named (.inl hn))
      · exact .inl ⟨u, hu, hn⟩
    · exact .inr (ovT_named (.inr h))
theorem foldT_other {i : Int} : ∀ (l : List PT) {f : PM}, (∀ t ∈ l, ¬ NmT t i) → l.foldl ovT f i = f i := by
  intro l
  induction l with
  | nil => intro f _; rfl
  | cons t l ih =>
    intro f h
    exact (ih (f := ovT f t) (fun u hu => h u (by simp [hu]))).trans (ovT_other (h t (by simp)))
theorem ov_twice (l : List PT) : ov (l ++ l) = ov l := by
  funext i
  unfold ov
  rw [List.foldl_append]
  by_cases h : ∃ t ∈ l, NmT t i
  · exact foldT_named l (.inl h)
  · rw [foldT_other (f := l.foldl ovT fun _ => none) l (fun t ht hn => h ⟨t, ht, hn⟩)]
theorem putB_get {l l' : List Blk} {c : Cp} (hl : l.length = l'.length) {j : Nat} (h : c.1 = j ∨ l[j]? = l'[j]?) (hj : j < l.length) : (putB l c)[j]? = (putB l' c)[j]? := by
  unfold putB
  by_cases hc : 0 ≤ c.1 ∧ c.1 < l.length
  · rw [if_pos hc, if_pos (by omega), List.getElem?_set, List.getElem?_set]
    by_cases e : c.1.toNat = j
    · rw [if_pos e, if_pos e, if_pos (by omega), if_pos (by omega)]
    · rw [if_neg e, if_neg e]
      rcases h with h | h
      · omega
      · exact h
  · rw [if_neg hc, if_neg (by omega)]
    rcases h with h | h
    · omega
    · exact h
theorem overB_get : ∀ (cs : List Cp) {l l' : List Blk} {j : Nat}, l.length = l'.length → j < l.length → ((j : Int) ∈ cs.map (·.1) ∨ l[j]? = l'[j]?) → (overB l cs)[j]? = (overB l' cs)[j]? := by
  intro cs
  induction cs with
  | nil => intro l l' j _ _ h; rcases h with h | h; simp at h; exact h
  | cons c cs ih =>
    intro l l' j hl hj h
    refine ih (l := putB l c) (l' := putB l' c) (by rw [putB_length, putB_length]; exact hl) (by rw [putB_length]; exact hj) ?_
    rcases h with h | h
    · by_cases e : c.1 = j
      · exact .inr (putB_get hl (.inl e) hj)
      · exact .inl (by simp only [List.map_cons, List.mem_cons] at h; rcases h with h | h; exact absurd h.symm e; exact h)
    · exact .inr (putB_get hl (.inr h) hj)
theorem overB_other : ∀ (cs : List Cp) {l : List Blk} {j : Nat}, (j : Int) ∉ cs.map (·.1) → (overB l cs)[j]? = l[j]? := by
  intro cs
  induction cs with
  | nil => intro l j _; rfl
  | cons c cs ih =>
    intro l j h
    simp only [List.map_cons, List.mem_cons, not_or] at h
    refine (ih (l := putB l c) h.2).trans ?_
    unfold putB
    split
    · rw [List.getElem?_set, if_neg (by omega)]
    · rfl
theorem overB_twice (l : List Blk) (cs : List Cp) : overB (overB l cs) cs = overB l cs := by
  apply List.ext_getElem?
  intro j
  by_cases hj : j < l.length
  · by_cases h : (j : Int) ∈ cs.map (·.1)
    · exact overB_get cs (overB_length cs l) (by rw [overB_length]; exact hj) (.inl h)
    · rw [overB_other cs h]
  · rw [List.getElem?_eq_none (by rw [overB_length, overB_length]; omega), List.getElem?_eq_none (by rw [overB_length]; omega)]
#print axioms overB_twice
end Go.Proofs.Ytlhhbkpocpnebaa
