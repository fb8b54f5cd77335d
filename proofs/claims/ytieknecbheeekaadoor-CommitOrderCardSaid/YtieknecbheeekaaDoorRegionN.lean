/- The rule for regions that draw their order, where one operation needs what only itself turns: as long as it has not come up that stands. -/
import Derived.Test.YtieknecbheeekaaDoorRegion
namespace Go.Proofs.YtieknecbheeekaaDoor
open Go
section
variable {P : Program} {ops : Array Oper} {Q : Exit → Act → World → Prop} {md : Region.Mode} {a0 a a' : Act} {vals vals' : Nat → Value} {S S' : Nat → Prop}
/-- THE RULE -/
theorem wpAny_factsN (sp : List Nat) (N : Nat → World → Prop) (listed0 : Array Bool) (rem : List Nat) (pre : Nat → List Nat) (hB : preB md ops listed0 rem pre = true) (a0 : Act) (w0 : World)
    (R : World → World → Prop) (hrefl : ∀ w, R w w) (htrans : ∀ w w', R w0 w → R w w' → R w0 w') (hN0 : ∀ j ∈ rem, N j w0) (A : Nat → Value → World → Prop) (hmono : ∀ j v w w', j ∉ sp → R w w' → A j v w → A j v w')
    (hop : ∀ j ∈ rem, ∀ o, ops[j]? = some o → ∀ (vals : Nat → Value) (w : World), R w0 w → N j w → (∀ k ∈ pre j, A k (vals k) w) →
      if Region.wanted o (yielded ops (canon ops vals a0 (pre j)).tmps) = true then Oper.gives P o (canon ops vals a0 (pre j)) w (fun v w' => A j v w' ∧ R w w' ∧ (∀ i, i ≠ j → i ∉ pre j → N i w → N i w') ∧ ∀ k ∈ sp, k ≠ j → j ∉ pre k → ∀ u, A k u w → A k u w') else A j undef w)
    (hfin : ∀ (vals : Nat → Value) (w : World), R w0 w → (∀ k ∈ rem, A k (vals k) w) → Q .normal (canon ops vals a0 rem) w) :
    ∀ (fuel : Nat), fuel = rem.length → wpAny P md ops Q fuel listed0 a0 w0 := by
  simp only [preB, Bool.and_eq_true, beq_iff_eq, List.all_eq_true] at hB
  obtain ⟨⟨⟨⟨⟨hsz, hsel⟩, hap⟩, hl0⟩, hin⟩, hall⟩ := hB
  have hselS := Region.noSelect_spec hsel
  -- the invariant
  have key : ∀ (fuel : Nat) (listed : Array Bool) (S : Nat → Prop) (vals : Nat → Value) (a : Act) (w : World) (todo : List Nat), listed.size = ops.size → todo.length = fuel → todo.Nodup →
      (∀ j, j ∈ todo ↔ (j ∈ rem ∧ ¬ S j)) → (∀ j, j < ops.size → (listed.getD j true = false ↔ j ∈ todo)) → (∀ j, S j → j ∈ rem) →
      Slots ops a0 vals S a → R w0 w → (∀ j, S j → A j (vals j) w) → (∀ j, S j → ∀ k ∈ pre j, S k) → (∀ j ∈ todo, N j w) → wpAny P md ops Q fuel listed a w := by
    have fin : ∀ (S : Nat → Prop) (vals : Nat → Value) (a : Act) (w : World), (∀ j, S j ↔ j ∈ rem) → Slots ops a0 vals S a → R w0 w → (∀ j, S j → A j (vals j) w) → Q .normal a w := by
      intro S vals a w hS hsl hR hA
      have h1 := canon_slots (ops := ops) (a0 := a0) vals rem (fun _ => False) a0 Slots.nil hap (fun _ _ h => h) (fun _ _ _ h => h.elim)
      have h2 := hsl.congr (S' := fun k => False ∨ k ∈ rem) (vals' := vals) (fun k => by simp [hS k]) (fun _ _ => rfl)
      rw [Slots.ext h2 h1]
      exact hfin vals w hR fun k hk => hA k ((hS k).2 hk)
    intro fuel
    induction fuel with
    | zero =>
      intro listed S vals a w todo hls htl hnd htodo hlist hSr hsl hR hA hpre hN
      have hnil : todo = [] := List.eq_nil_of_length_eq_zero htl
      have hready : Region.ready md ops listed = [] := by
        rw [List.eq_nil_iff_forall_not_mem]
        intro i hi
        obtain ⟨hun, o, ho, _⟩ := mem_ready.1 hi
        have hlt : i < ops.size := (Array.getElem?_eq_some_iff.1 ho).1
        have := (hlist i hlt).1 hun
        rw [hnil] at this
        cases this
      refine ⟨hready, fin S vals a w (fun j => ⟨hSr j, fun hj => ?_⟩) hsl hR hA⟩
      by_cases hs : S j
      · exact hs
      · have := (htodo j).2 ⟨hj, hs⟩
        rw [hnil] at this
        cases this
    | succ fuel ih =>
      intro listed S vals a w todo hls htl hnd htodo hlist hSr hsl hR hA hpre hN
      have hin' : ∀ j ∈ rem, j < ops.size := fun j hj => by simpa using hin j hj
      -- something can come up
      have hex : ∀ n j, j ∈ todo → j < n → ∃ i, i ∈ Region.ready md ops listed := by
        intro n
        induction n with
        | zero => intro j _ hj; omega
        | succ n ihn =>
          intro j hj hjn
          have hjr := ((htodo j).1 hj).1
          have hjl := hin' j hjr
          obtain ⟨o, ho⟩ : ∃ o, ops[j]? = some o := ⟨ops[j], Array.getElem?_eq_getElem hjl⟩
          by_cases hrd : ∀ e ∈ o.after, Region.binds md e = true → listed.getD e.on false = true
          · exact ⟨j, mem_ready.2 ⟨(hlist j hjl).2 hj, o, ho, hrd⟩⟩
          · have : ∃ e, e ∈ o.after ∧ Region.binds md e = true ∧ listed.getD e.on false = false := by
              apply Classical.byContradiction
              intro hno
              exact hrd fun e he hb => by
                cases hx : listed.getD e.on false with
                | true => rfl
                | false => exact absurd ⟨e, he, hb, hx⟩ hno
            obtain ⟨e, he, hb, hx⟩ := this
            have hj1 := hall j hjr
            rw [ho] at hj1
            simp only [Bool.and_eq_true, Array.all_eq_true_iff_forall_mem, Bool.or_eq_true, Bool.not_eq_true', decide_eq_true_eq] at hj1
            have hlt : e.on < j := by
              rcases hj1.1.1.1 e he with h | h
              · rw [hb] at h; cases h
              · exact h
            have hel : e.on < listed.size := by omega
            have hun : listed.getD e.on true = false := by
              simp [hel] at hx ⊢; exact hx
            exact ihn e.on ((hlist e.on (by omega)).1 hun) (by omega)
      refine ⟨fun hnone => ?_, fun i hi => ?_⟩
      · cases htd : todo with
        | nil => rw [htd] at htl; simp at htl
        | cons j l =>
          obtain ⟨i, hi⟩ := hex (j + 1) j (by simp [htd]) (by omega)
          rw [hnone] at hi
          cases hi
      · obtain ⟨hun, o, ho, hafter⟩ := mem_ready.1 hi
        have hil : i < ops.size := (Array.getElem?_eq_some_iff.1 ho).1
        have hit := (hlist i hil).1 hun
        obtain ⟨hir, hiS⟩ := (htodo i).1 hit
        have hi1 := hall i hir
        rw [ho] at hi1
        simp only [Bool.and_eq_true, List.all_eq_true] at hi1
        obtain ⟨⟨⟨_, hprei⟩, hapi⟩, hothers⟩ := hi1
        -- what it waits for has come up
        have hSof : ∀ k ∈ rem, listed.getD k false = true → S k := fun k hk hl => by
          apply Classical.byContradiction
          intro hs
          have h1 := (hlist k (hin' k hk)).2 ((htodo k).2 ⟨hk, hs⟩)
          have : k < listed.size := by rw [hls]; exact hin' k hk
          simp [this] at h1 hl
          rw [h1] at hl
          cases hl
        have hwait : ∀ k ∈ pre i, S k := fun k hk => by
          have h1 := hprei k hk
          simp only [Bool.and_eq_true, Array.any_eq_true', Bool.or_eq_true, beq_iff_eq, List.contains_iff_mem] at h1
          obtain ⟨hkr, e, he, hb, h2⟩ := h1
          have hl := hafter e he hb
          rcases h2 with h2 | ⟨h2, h3⟩
          · rw [← h2]; exact hSof _ (by rw [h2]; exact hkr) hl
          · exact hpre _ (hSof _ h2 hl) k h3
        have hcan := canon_slots (ops := ops) (a0 := a0) vals (pre i) (fun _ => False) a0 Slots.nil hapi (fun _ _ h => h) (fun _ _ _ h => h.elim)
        have hagree : ∀ d ∈ o.looksAt ops, a.tmps.getD d undef = (canon ops vals a0 (pre i)).tmps.getD d undef := fun d hd => by
          by_cases hlt : d < a0.tmps.size
          · by_cases hw : ∃ k, k ∈ pre i ∧ dstAt ops k = some d
            · obtain ⟨k, hk, hkd⟩ := hw
              rw [hsl.on k d (hwait k hk) hkd hlt, hcan.on k d (.inr hk) hkd hlt]
            · rw [hcan.off d fun k hk hkd => hw ⟨k, by simpa using hk, hkd⟩]
              refine hsl.off d fun k hk hkd => ?_
              have h1 := hothers k (hSr k hk)
              simp only [Bool.or_eq_true, beq_iff_eq, List.contains_iff_mem, hkd, Bool.not_eq_true'] at h1
              rcases h1 with ((h1 | h1) | h1) | h1
              · rw [h1] at hk; exact hiS hk
              · exact hw ⟨k, h1, hkd⟩
              · exact hiS (hpre k hk i h1)
              · have : (o.looksAt ops).contains d = true := List.contains_iff_mem.2 hd
                rw [this] at h1; cases h1
          · rw [getD_big (by rw [hsl.size]; exact Nat.le_of_not_lt hlt), getD_big (by rw [hcan.size]; exact Nat.le_of_not_lt hlt)]
        have hexec := exec_congr (ops := ops) (o := o) (fun cs b => hselS i o cs b ho) hagree
        have hwant := wanted_congr (ops := ops) (o := o) hagree
        have hob := hop i hir o ho vals w hR (hN i hit) fun k hk => hA k (hwait k hk)
        have hod : o.dst = dstAt ops i := by simp [dstAt, ho]
        -- behind it
        have next : ∀ v w', A i v w' → R w w' → (∀ k, k ≠ i → k ∉ pre i → N k w → N k w') → (∀ k ∈ sp, k ≠ i → i ∉ pre k → ∀ u, A k u w → A k u w') → wpAny P md ops Q fuel (listed.setIfInBounds i true) (a.put o.dst v) w' := fun v w' hAv hRw hNw hSp => by
          have hdis : ∀ k, S k → ∀ d, dstAt ops k = some d → dstAt ops i ≠ some d := by
            intro k hk d hkd hid
            have hki : k ≠ i := by rintro rfl; exact hiS hk
            have : ∀ l : List Nat, apartB ops l = true → k ∈ l → i ∈ l → False := by
              intro l
              induction l with
              | nil => intro _ h; cases h
              | cons x l ihl =>
                intro hb hk' hi'
                simp only [apartB, Bool.and_eq_true, List.all_eq_true, bne_iff_ne, ne_eq] at hb
                rcases List.mem_cons.1 hk' with hk2 | hk2 <;> rcases List.mem_cons.1 hi' with hi2 | hi2
                · exact hki (hk2.trans hi2.symm)
                · have := (hb.1 i hi2).2
                  rw [← hk2, hkd] at this
                  simp [hid] at this
                · have := (hb.1 k hk2).2
                  rw [← hi2, hid] at this
                  simp [hkd] at this
                · exact ihl hb.2 hk2 hi2
            exact this rem hap (hSr k hk) hir
          rw [hod]
          refine ih (listed.setIfInBounds i true) (fun k => S k ∨ k = i) _ _ w' (todo.erase i) (by simp [hls]) ?_ (hnd.erase i) ?_ ?_ ?_ (hsl.put v hiS hdis) (htrans _ _ hR hRw) ?_ ?_ (fun j hj => hNw j (fun e => by subst e; exact hnd.not_mem_erase hj) (fun hm => ((htodo j).1 (List.mem_of_mem_erase hj)).2 (hwait j hm)) (hN j (List.mem_of_mem_erase hj)))
          · rw [List.length_erase_of_mem hit, htl]; rfl
          · intro j
            by_cases hji : j = i
            · subst hji
              constructor
              · intro hm; exact absurd hm hnd.not_mem_erase
              · intro ⟨_, h⟩; exact absurd (.inr rfl) h
            · rw [List.mem_erase_of_ne hji, htodo j]
              constructor
              · intro ⟨h1, h2⟩; exact ⟨h1, fun h => by rcases h with h | h; exact h2 h; exact hji h⟩
              · intro ⟨h1, h2⟩; exact ⟨h1, fun h => h2 (.inl h)⟩
          · intro j hj
            by_cases hji : j = i
            · subst hji
              constructor
              · intro h
                have hlt : j < listed.size := by omega
                simp [hlt] at h
              · intro hm; exact absurd hm hnd.not_mem_erase
            · rw [List.mem_erase_of_ne hji, ← hlist j hj, getD_set_ne true (Ne.symm hji)]
          · intro j hj
            rcases hj with hj | rfl
            · exact hSr j hj
            · exact hir
          · intro j hj
            by_cases hji : j = i
            · rw [if_pos hji, hji]; exact hAv
            · rw [if_neg hji]
              rcases hj with hj | hj
              · by_cases hjs : j ∈ sp
                · exact hSp j hjs hji (fun hm => hiS (hpre j hj i hm)) _ (hA j hj)
                · exact hmono _ _ _ _ hjs hRw (hA j hj)
              · exact absurd hj hji
          · intro j hj k hk
            rcases hj with hj | rfl
            · exact .inl (hpre j hj k hk)
            · exact .inl (hwait k hk)
        unfold wpOp
        simp only [ho]
        rw [hwant]
        split
        · rename_i hw
          rw [if_pos hw] at hob
          exact .inl (Oper.gives_wp hexec hob fun v w' ⟨h1, h2, h3, h4⟩ => next v w' h1 h2 h3 h4)
        · rename_i hw
          rw [if_neg hw] at hob
          exact next undef w hob (hrefl w) (fun _ _ _ h => h) (fun _ _ _ _ _ h => h)
  have nodup_of : ∀ l : List Nat, apartB ops l = true → l.Nodup := by
    intro l
    induction l with
    | nil => intro _; exact List.nodup_nil
    | cons x l ihl =>
      intro hb
      simp only [apartB, Bool.and_eq_true, List.all_eq_true, bne_iff_ne, ne_eq] at hb
      exact List.nodup_cons.2 ⟨fun hx => (hb.1 x hx).1 rfl, ihl hb.2⟩
  intro fuel hf
  refine key fuel listed0 (fun _ => False) (fun _ => undef) a0 w0 rem hsz hf.symm (nodup_of rem hap) (fun j => by simp) (fun j hj => ?_) (fun _ h => h.elim) Slots.nil (hrefl w0) (fun _ h => h.elim) (fun _ h => h.elim) hN0
  have h1 := hl0 j (List.mem_range.2 hj)
  rw [h1]
  simp

/-- each operation, once -/
def OpsOKN (sp : List Nat) (NP : List (Nat × (World → Prop))) (P : Program) (ops : Array Oper) (a0 : Act) (w0 : World) (R : World → World → Prop) (A : Nat → Value → World → Prop) (pre : Nat → List (Nat × Option Tmp)) : Nat → List Oper → Prop
  | _, [] => True
  | j, o :: rest => (∀ (vals : Nat → Value) (w : World), R w0 w → (∀ p ∈ NP, p.1 = j → p.2 w) → factsP A vals w (pre j) →
      if Region.wanted o (yielded ops (canonP vals a0 (pre j)).tmps) = true then Oper.gives P o (canonP vals a0 (pre j)) w (fun v w' => A j v w' ∧ R w w' ∧ (∀ p ∈ NP, p.1 ≠ j → p.1 ∉ (pre j).map (·.1) → p.2 w → p.2 w') ∧ ∀ k ∈ sp, k ≠ j → j ∉ (pre k).map (·.1) → ∀ u, A k u w → A k u w') else A j undef w) ∧ OpsOKN sp NP P ops a0 w0 R A pre (j + 1) rest
theorem OpsOKN.at {sp : List Nat} {NP : List (Nat × (World → Prop))} {P : Program} {ops : Array Oper} {a0 : Act} {w0 : World} {R : World → World → Prop} {A : Nat → Value → World → Prop} {pre : Nat → List (Nat × Option Tmp)} :
    ∀ (l : List Oper) (j : Nat), OpsOKN sp NP P ops a0 w0 R A pre j l → ∀ i o, l[i]? = some o → ∀ (vals : Nat → Value) (w : World), R w0 w → (∀ p ∈ NP, p.1 = j + i → p.2 w) → factsP A vals w (pre (j + i)) →
      if Region.wanted o (yielded ops (canonP vals a0 (pre (j + i))).tmps) = true then Oper.gives P o (canonP vals a0 (pre (j + i))) w (fun v w' => A (j + i) v w' ∧ R w w' ∧ (∀ p ∈ NP, p.1 ≠ j + i → p.1 ∉ (pre (j + i)).map (·.1) → p.2 w → p.2 w') ∧ ∀ k ∈ sp, k ≠ j + i → j + i ∉ (pre k).map (·.1) → ∀ u, A k u w → A k u w') else A (j + i) undef w := by
  intro l
  induction l with
  | nil => intro j _ i o h; simp at h
  | cons x l ih =>
    intro j h i o ho
    cases i with
    | zero =>
      have : x = o := by simpa using ho
      subst this
      exact h.1
    | succ i =>
      have := ih (j + 1) h.2 i o (by simpa using ho)
      rw [show j + 1 + i = j + (i + 1) by omega] at this
      exact this
theorem Oper.gives_mono {o : Oper} {a : Act} {w : World} {T T' : Value → World → Prop} (hT : ∀ v w', T v w' → T' v w') (h : Oper.gives P o a w T) : Oper.gives P o a w T' := by
  unfold Oper.gives at h ⊢
  generalize (execOp a.eval o).run P w = r at *
  cases r with
  | ok n w' =>
    cases n <;> simp only at h ⊢
    case value v => exact hT _ _ h
    case skip => exact hT _ _ h
    case enter f args => exact h.mono fun e w'' ⟨v, hv, ht⟩ => ⟨v, hv, hT _ _ ht⟩
  | halt x w' => simp at h
/-- each fact stays, but for those of the list -/
def AllStabS (R : World → World → Prop) (sp : List Nat) : Nat → List (Value → World → Prop) → Prop
  | _, [] => True
  | j, X :: l => (j ∈ sp ∨ Stab R X) ∧ AllStabS R sp (j + 1) l
theorem AllStabS.at {R : World → World → Prop} {sp : List Nat} : ∀ (l : List (Value → World → Prop)) (i j : Nat), AllStabS R sp i l → i + j ∉ sp → Stab R (l.getD j fun _ _ => True) := by
  intro l
  induction l with
  | nil => intro i j _ _ v w w' _ _; trivial
  | cons X l ih =>
    intro i j h hn
    cases j with
    | zero =>
      rcases h.1 with h1 | h1
      · exact absurd h1 hn
      · exact h1
    | succ j => exact ih (i + 1) j h.2 (by rw [show i + 1 + j = i + (j + 1) by omega]; exact hn)
theorem wp_region_factsN (sp : List Nat) (NP : List (Nat × (World → Prop))) {id : Nat} {l : List Oper} {a0 : Act} {w : World} (hm : P.follows .mixedOrders = true) (pre : List (List (Nat × Option Tmp))) (all : List (Nat × Option Tmp))
    (hB : preB .any l.toArray (Array.replicate l.length false) (all.map (·.1)) (fun j => (pre.getD j []).map (·.1)) = true)
    (hP : ((all :: pre).all fun q => q.all fun p => dstAt l.toArray p.1 == p.2) = true) (hR : all.map (·.1) = List.range l.length)
    (R : World → World → Prop) (hrefl : ∀ w, R w w) (htrans : ∀ a b c, R a b → R b c → R a c) (A : List (Value → World → Prop)) (hlen : A.length = l.length) (hA : AllStabS R sp 0 A)
    (hN0 : ∀ p ∈ NP, p.2 w.drew) (hop : OpsOKN sp NP P l.toArray a0 w.drew R (fun j => A.getD j fun _ _ => True) (fun j => pre.getD j []) 0 l)
    (hfin : ∀ (vals : Nat → Value) (w' : World), R w.drew w' → AllFacts vals w' 0 A → Q .normal (canonP vals a0 all) w') : (Code.region id l.toArray true).wp P Q a0 w := by
  have hdst : ∀ q ∈ all :: pre, (q.all fun p => dstAt l.toArray p.1 == p.2) = true := fun q hq => List.all_eq_true.1 hP q hq
  have hpre : ∀ j, ((pre.getD j []).all fun p => dstAt l.toArray p.1 == p.2) = true := fun j => by
    rw [List.getD_eq_getElem?_getD]
    cases h : pre[j]? with
    | none => rfl
    | some q => exact hdst q (List.mem_cons_of_mem _ (List.mem_of_getElem? h))
  refine wp_region_any hm ?_
  refine wpAny_factsN sp (fun j w => ∀ p ∈ NP, p.1 = j → p.2 w) (Array.replicate l.length false) (all.map (·.1)) (fun j => (pre.getD j []).map (·.1)) hB a0 w.drew R hrefl (fun a b h h' => htrans _ _ _ h h') (fun _ _ p hp _ => hN0 p hp) (fun j => A.getD j fun _ _ => True)
    (fun j v w w' hn h hX => AllStabS.at A 0 j hA (by simpa using hn) v w w' h hX) ?_ ?_ _ (by rw [hR]; simp)
  · intro j _ o ho vals w' hw hn hf
    have h1 := hop.at l 0 j o (by simpa using ho) vals w' hw (by simpa using hn) (factsP_of _ (by simpa using hf))
    rw [canonP_eq (ops := l.toArray) vals _ _ (hpre (0 + j)), Nat.zero_add] at h1
    split at h1
    · rename_i hwt
      rw [if_pos hwt]
      exact Oper.gives_mono (fun v w2 ⟨q1, q2, q3, q4⟩ => ⟨q1, q2, fun i hi hni hn' p hp e => q3 p hp (fun e' => hi (e.symm.trans e')) (by rw [e]; exact hni) (hn' p hp e), q4⟩) h1
    · rename_i hwt
      rw [if_neg hwt]
      exact h1
  · intro vals w' hw hf
    have h1 := hfin vals w' hw (allFacts_of A 0 fun k hk => by
      rw [Nat.zero_add]
      exact hf k (by rw [hR, List.mem_range, ← hlen]; exact hk))
    rw [canonP_eq (ops := l.toArray) vals _ _ (hdst all (by simp))] at h1
    exact h1
end
end Go.Proofs.YtieknecbheeekaaDoor
