/- ReplayRevoked: the plain law. -/
import Derived.Test.YtlhhbkpocpnebaaP20
import Derived.Test.YtlhhbkpocpnebaaP19
set_option linter.unusedVariables false
set_option linter.unusedSimpArgs false
namespace Go.Proofs.Ytlhhbkpocpnebaa
open Go.RowKit Go.Maps

theorem hasC_iff {cs : List Cp} {b : Int} : hasC cs b = true ↔ b ∈ cs.map (·.1) := by
  unfold hasC
  rw [List.any_eq_true, List.mem_map]
  exact ⟨fun ⟨c, h1, h2⟩ => ⟨c, h1, by simpa using h2⟩, fun ⟨c, h1, h2⟩ => ⟨c, h1, by simpa using h2⟩⟩
theorem anyB_iff {zs : List Int} {b : Int} : zs.any (· == b) = true ↔ b ∈ zs := by
  rw [List.any_eq_true]
  exact ⟨fun ⟨c, h1, h2⟩ => by have : c = b := by simpa using h2
                               rw [← this]; exact h1, fun h => ⟨b, h, by simp⟩⟩
theorem nmB_iff {t : PT} {b : Int} : nmB t b = true ↔ NmT t b := by
  unfold nmB NmT
  rw [Bool.or_eq_true, hasC_iff, anyB_iff]
/-- passed already: copied behind -/
def dec (l : List PT) (cs : List Cp) (z : Int) : Bool := hasC cs z || l.any fun t => hasC t.cs z
/-- how many are left -/
def leftN (zs : List Int) (l : List PT) (cs : List Cp) : Nat := (zs.filter fun z => !dec l cs z).length
theorem fold_revoked {b : Int} : ∀ (l : List PT) {f : PM}, ((∃ t ∈ l, NmT t b) ∨ f b = none) → (∀ t ∈ l, b ∉ t.cs.map (·.1)) → l.foldl ovT f b = none := by
  intro l
  induction l with
  | nil => intro f h _; rcases h with ⟨t, ht, _⟩ | h; simp at ht; exact h
  | cons t l ih =>
    intro f h hn
    refine ih (f := ovT f t) ?_ (fun u hu => hn u (by simp [hu]))
    have h1 := hn t (by simp)
    rcases h with ⟨u, hu, hm⟩ | h
    · rcases List.mem_cons.1 hu with rfl | hu
      · rcases hm with hm | hm
        · exact absurd hm h1
        · exact .inr (delsG_none _ (.inr hm))
      · exact .inl ⟨u, hu, hm⟩
    · exact .inr (delsG_none _ (.inl (by rw [putsG_other _ h1]; exact h)))
theorem ov_split {L : List PT} {i : Nat} {t : PT} (h : L[i]? = some t) (b : Int) : ov L b = (L.drop (i + 1)).foldl ovT (ovT (ov (L.take i)) t) b := by
  have hs : L = L.take (i + 1) ++ L.drop (i + 1) := (List.take_append_drop _ _).symm
  have : ov L = (L.drop (i + 1)).foldl ovT (ov (L.take (i + 1))) := by
    unfold ov
    rw [← List.foldl_append, ← hs]
  rw [this, ov_take h]; rfl
theorem putsG_last {f : PM} {cs : List Cp} {k : Nat} {c : Cp} (h : cs[k]? = some c) (hn : c.1 ∉ (cs.drop (k + 1)).map (·.1)) : putsG f cs c.1 = some c := by
  have hs : cs = cs.take (k + 1) ++ cs.drop (k + 1) := (List.take_append_drop _ _).symm
  have : putsG f cs = putsG (putsG f (cs.take (k + 1))) (cs.drop (k + 1)) := by
    unfold putsG; rw [← List.foldl_append, ← hs]
  rw [this, putsG_other _ hn, putsG_take h, putG_same]
/-- named behind: nothing changes -/
theorem left_named {L : List PT} {i k : Nat} {t : PT} {c : Cp} {zs : List Int} (hz : Rising (HasM (ov L)) zs) (hi : L[i]? = some t) (hk : t.cs[k]? = some c) (h : ((L.drop (i + 1)).any fun u => nmB u c.1) = true ∨ hasC (t.cs.drop (k + 1)) c.1 = true) :
    leftN zs (L.drop (i + 1)) (t.cs.drop k) = leftN zs (L.drop (i + 1)) (t.cs.drop (k + 1)) := by
  unfold leftN
  congr 1
  apply List.filter_congr
  intro z hzm
  have hd : t.cs.drop k = c :: t.cs.drop (k + 1) := by
    rw [List.drop_eq_getElem_cons (List.getElem?_eq_some_iff.1 hk).1]
    congr 1
    exact (List.getElem?_eq_some_iff.1 hk).2
  have hdec : dec (L.drop (i + 1)) (t.cs.drop k) z = ((c.1 == z) || dec (L.drop (i + 1)) (t.cs.drop (k + 1)) z) := by
    rw [hd]; unfold dec hasC; rw [List.any_cons, Bool.or_assoc]
  rw [hdec]
  by_cases e : c.1 = z
  · subst e
    have : dec (L.drop (i + 1)) (t.cs.drop (k + 1)) c.1 = true := by
      rcases h with h | h
      · obtain ⟨u, hu, hm⟩ := List.any_eq_true.1 h
        rw [nmB_iff] at hm
        apply Classical.byContradiction
        intro hn
        unfold dec at hn
        rw [Bool.or_eq_true, not_or, List.any_eq_true] at hn
        have hno : ov L c.1 = none := by
          rw [ov_split hi]
          exact fold_revoked _ (.inl ⟨u, hu, hm⟩) (fun v hv hc => hn.2 ⟨v, hv, hasC_iff.2 hc⟩)
        have := (hz.mem c.1).1 hzm
        unfold HasM at this
        rw [hno] at this
        cases this
      · unfold dec; rw [h]; rfl
    rw [this]; simp
  · rw [show (c.1 == z) = false by simp [e]]; simp
/-- the last copy, but revoked: nothing is left of it -/
theorem last_revoked {L : List PT} {i : Nat} {t : PT} {b : Int} (hi : L[i]? = some t) (h1 : ((L.drop (i + 1)).any fun u => nmB u b) = false) (h2 : b ∈ t.rs) : ov L b = none := by
  rw [ov_split hi, foldT_other _ (fun u hu hm => by
    have := List.any_eq_false.1 h1 u hu
    rw [nmB_iff] at this
    exact this hm)]
  exact delsG_none _ (.inr h2)
theorem last_copy {L : List PT} {i k : Nat} {t : PT} {c : Cp} (hi : L[i]? = some t) (hk : t.cs[k]? = some c) (h1 : ((L.drop (i + 1)).any fun u => nmB u c.1) = false) (h3 : hasC (t.cs.drop (k + 1)) c.1 = false) (h2 : c.1 ∉ t.rs) : ov L c.1 = some c := by
  rw [ov_split hi, foldT_other _ (fun u hu hm => by
    have := List.any_eq_false.1 h1 u hu
    rw [nmB_iff] at this
    exact this hm)]
  unfold ovT
  rw [delsG_other _ h2]
  exact putsG_last hk (fun hm => by rw [hasC_iff.2 hm] at h3; cases h3)
theorem left_revoked {L : List PT} {i k : Nat} {t : PT} {c : Cp} {zs : List Int} (hz : Rising (HasM (ov L)) zs) (hk : t.cs[k]? = some c) (h : ov L c.1 = none) :
    leftN zs (L.drop (i + 1)) (t.cs.drop k) = leftN zs (L.drop (i + 1)) (t.cs.drop (k + 1)) := by
  unfold leftN
  congr 1
  apply List.filter_congr
  intro z hzm
  have hd : t.cs.drop k = c :: t.cs.drop (k + 1) := by
    rw [List.drop_eq_getElem_cons (List.getElem?_eq_some_iff.1 hk).1]
    congr 1
    exact (List.getElem?_eq_some_iff.1 hk).2
  have hdec : dec (L.drop (i + 1)) (t.cs.drop k) z = ((c.1 == z) || dec (L.drop (i + 1)) (t.cs.drop (k + 1)) z) := by
    rw [hd]; unfold dec hasC; rw [List.any_cons, Bool.or_assoc]
  rw [hdec]
  have e : ¬ c.1 = z := by
    rintro rfl
    have := (hz.mem c.1).1 hzm
    unfold HasM at this
    rw [h] at this
    cases this
  rw [show (c.1 == z) = false by simp [e]]; simp
theorem filter_less {zs : List Int} {p q : Int → Bool} {b : Int} (hn : zs.Nodup) (hb : b ∈ zs) (hp : p b = true) (hq : ∀ z, q z = (p z && !decide (z = b))) : (zs.filter p).length = (zs.filter q).length + 1 := by
  have hperm : (zs.filter p).Perm (b :: zs.filter q) := by
    refine (List.perm_ext_iff_of_nodup (hn.filter _) (List.nodup_cons.2 ⟨fun hm => ?_, hn.filter _⟩)).2 (fun i => ?_)
    · have := (List.mem_filter.1 hm).2; rw [hq] at this; simp at this
    · rw [List.mem_cons, List.mem_filter, List.mem_filter, hq]
      by_cases e : i = b
      · subst e; simp [hb, hp]
      · simp [e]
  rw [hperm.length_eq, List.length_cons]
theorem left_copy {L : List PT} {i k : Nat} {t : PT} {c : Cp} {zs : List Int} (hz : Rising (HasM (ov L)) zs) (hk : t.cs[k]? = some c) (h1 : ((L.drop (i + 1)).any fun u => nmB u c.1) = false) (h3 : hasC (t.cs.drop (k + 1)) c.1 = false) (h : ov L c.1 = some c) :
    leftN zs (L.drop (i + 1)) (t.cs.drop (k + 1)) = leftN zs (L.drop (i + 1)) (t.cs.drop k) + 1 := by
  have hd : t.cs.drop k = c :: t.cs.drop (k + 1) := by
    rw [List.drop_eq_getElem_cons (List.getElem?_eq_some_iff.1 hk).1]
    congr 1
    exact (List.getElem?_eq_some_iff.1 hk).2
  have hdec : ∀ z, dec (L.drop (i + 1)) (t.cs.drop k) z = ((c.1 == z) || dec (L.drop (i + 1)) (t.cs.drop (k + 1)) z) := fun z => by
    rw [hd]; unfold dec hasC; rw [List.any_cons, Bool.or_assoc]
  unfold leftN
  refine filter_less (b := c.1) hz.nodup ((hz.mem _).2 (by unfold HasM; rw [h]; rfl)) ?_ (fun z => ?_)
  · unfold dec
    rw [h3, Bool.false_or, Bool.not_eq_true']
    apply Bool.eq_false_iff.2
    intro ht
    obtain ⟨u, hu, hc⟩ := List.any_eq_true.1 ht
    have := List.any_eq_false.1 h1 u hu
    unfold nmB at this
    rw [hc] at this
    exact this rfl
  · rw [hdec]
    by_cases e : z = c.1
    · subst e; simp
    · rw [show (c.1 == z) = false by simp; exact fun h => e h.symm]; simp [e]
theorem left_next {L : List PT} {i : Nat} {t : PT} {zs : List Int} (hi : L[i]? = some t) : leftN zs (L.drop (i + 1)) (t.cs.drop 0) = leftN zs (L.drop i) [] := by
  have hd : L.drop i = t :: L.drop (i + 1) := by
    rw [List.drop_eq_getElem_cons (List.getElem?_eq_some_iff.1 hi).1]
    congr 1
    exact (List.getElem?_eq_some_iff.1 hi).2
  unfold leftN
  congr 1
  apply List.filter_congr
  intro z _
  rw [hd]
  unfold dec
  rw [List.drop_zero, List.any_cons]
  simp [hasC]
theorem left_start {L : List PT} {i : Nat} {t : PT} {zs : List Int} : leftN zs (L.drop (i + 1)) (t.cs.drop t.cs.length) = leftN zs (L.drop (i + 1)) [] := by
  rw [List.drop_length]
theorem left_all {L : List PT} {zs : List Int} : leftN zs (L.drop L.length) [] = zs.length := by
  unfold leftN dec hasC
  rw [List.drop_length]
  simp
theorem left_none {L : List PT} {zs : List Int} (hz : Rising (HasM (ov L)) zs) : leftN zs (L.drop 0) [] = 0 := by
  unfold leftN
  rw [List.length_eq_zero_iff, List.filter_eq_nil_iff]
  intro z hzm hn
  have h1 := (hz.mem z).1 hzm
  unfold HasM at h1
  have : z ∈ allB L := Classical.byContradiction fun hn => by rw [ov_copied L z hn] at h1; cases h1
  unfold allB at this
  obtain ⟨t, ht, hc⟩ := List.mem_flatMap.1 this
  unfold dec at hn
  rw [List.drop_zero] at hn
  have : (L.any fun t => hasC t.cs z) = true := List.any_eq_true.2 ⟨t, ht, hasC_iff.2 hc⟩
  rw [this] at hn
  simp at hn
#print axioms left_none
end Go.Proofs.Ytlhhbkpocpnebaa
