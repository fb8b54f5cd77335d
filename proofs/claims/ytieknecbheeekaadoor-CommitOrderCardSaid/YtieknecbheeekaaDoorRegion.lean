/- A region that draws its order: each operation is shown once, from what the operations that it waits for have left; whatever order is drawn, all that was shown holds at the end. -/
import Derived.Orders
import Derived.OrdersHeld
import Derived.Tactics
import Derived.StillTail
namespace Go.Proofs.YtieknecbheeekaaDoor
open Go

/-- the slot that operation j writes -/
def dstAt (ops : Array Oper) (j : Nat) : Option Tmp := (ops[j]?).bind (·.dst)
/-- the frame once the operations of a list have come up, with these values -/
def canon (ops : Array Oper) (vals : Nat → Value) (a : Act) : List Nat → Act
  | [] => a
  | j :: l => canon ops vals (a.put (dstAt ops j) (vals j)) l

structure Slots (ops : Array Oper) (a0 : Act) (vals : Nat → Value) (S : Nat → Prop) (a : Act) : Prop where
  size : a.tmps.size = a0.tmps.size
  defers : a.defers = a0.defers
  on : ∀ j d, S j → dstAt ops j = some d → d < a0.tmps.size → a.tmps.getD d undef = vals j
  off : ∀ d, (∀ j, S j → dstAt ops j ≠ some d) → a.tmps.getD d undef = a0.tmps.getD d undef

section
variable {P : Program} {ops : Array Oper} {Q : Exit → Act → World → Prop} {md : Region.Mode} {a0 a a' : Act} {vals vals' : Nat → Value} {S S' : Nat → Prop}

theorem getD_big {t : Array Value} {d : Nat} (h : t.size ≤ d) : t.getD d undef = undef := by
  simp [Array.getElem?_eq_none h]
theorem Slots.nil : Slots ops a0 vals (fun _ => False) a0 := ⟨rfl, rfl, fun _ _ h => h.elim, fun _ _ => rfl⟩
theorem Slots.ext (h : Slots ops a0 vals S a) (h' : Slots ops a0 vals S a') : a = a' := by
  obtain ⟨t, d⟩ := a
  obtain ⟨t', d'⟩ := a'
  have hd : d = d' := h.defers.trans h'.defers.symm
  subst hd
  have : t = t' := by
    apply Array.ext
    · exact h.size.trans h'.size.symm
    · intro i h1 h2
      have hi : t.getD i undef = t'.getD i undef := by
        by_cases he : ∃ j, S j ∧ dstAt ops j = some i
        · obtain ⟨j, hj, hdj⟩ := he
          have hs : i < a0.tmps.size := by rw [← h.size]; exact h1
          exact (h.on j i hj hdj hs).trans (h'.on j i hj hdj hs).symm
        · have hn : ∀ j, S j → dstAt ops j ≠ some i := fun j hj hdj => he ⟨j, hj, hdj⟩
          exact (h.off i hn).trans (h'.off i hn).symm
      simpa [h1, h2] using hi
  rw [this]
theorem Slots.put (h : Slots ops a0 vals S a) {j : Nat} (v : Value) (hj : ¬ S j) (hd : ∀ k, S k → ∀ d, dstAt ops k = some d → dstAt ops j ≠ some d) :
    Slots ops a0 (fun k => if k = j then v else vals k) (fun k => S k ∨ k = j) (a.put (dstAt ops j) v) := by
  cases hdj : dstAt ops j with
  | none =>
    refine ⟨h.size, h.defers, fun k d hk hkd hlt => ?_, fun d hno => h.off d fun k hk => hno k (.inl hk)⟩
    have hkj : k ≠ j := by rintro rfl; rw [hdj] at hkd; cases hkd
    rcases hk with hk | hk
    · rw [if_neg hkj]; exact h.on k d hk hkd hlt
    · exact absurd hk hkj
  | some e =>
    have hget : ∀ d, (a.put (some e) v).tmps.getD d undef = if d = e ∧ e < a.tmps.size then v else a.tmps.getD d undef := by
      intro d
      simp only [Act.put]
      by_cases hde : d = e
      · subst hde
        by_cases hlt : d < a.tmps.size
        · simp [hlt]
        · simp [hlt]
      · simp [hde, Array.getElem?_setIfInBounds_ne (Ne.symm hde)]
    refine ⟨by simp [Act.put, h.size], h.defers, fun k d hk hkd hlt => ?_, fun d hno => ?_⟩
    · rw [hget]
      rcases hk with hk | rfl
      · have hne : d ≠ e := by rintro rfl; exact hd k hk d hkd hdj
        have hkj : k ≠ j := by rintro rfl; exact hj hk
        rw [if_neg (fun h => hne h.1), if_neg hkj]
        exact h.on k d hk hkd hlt
      · rw [hdj] at hkd
        obtain rfl : e = d := Option.some.inj hkd
        rw [if_pos ⟨rfl, by rw [h.size]; exact hlt⟩, if_pos rfl]
    · rw [hget, if_neg (fun h => hno j (.inr rfl) (by rw [hdj, h.1]))]
      exact h.off d fun k hk => hno k (.inl hk)
theorem Slots.congr (h : Slots ops a0 vals S a) (hS : ∀ k, S' k ↔ S k) (hv : ∀ k, S k → vals' k = vals k) : Slots ops a0 vals' S' a :=
  ⟨h.size, h.defers, fun j d hj hd hlt => by rw [hv j ((hS j).1 hj)]; exact h.on j d ((hS j).1 hj) hd hlt, fun d hno => h.off d fun j hj => hno j ((hS j).2 hj)⟩

/-- no two operations of the list write one slot -/
def apartB (ops : Array Oper) : List Nat → Bool
  | [] => true
  | j :: l => (l.all fun k => k != j && (match dstAt ops j with | some d => dstAt ops k != some d | none => true)) && apartB ops l
theorem canon_slots (vals : Nat → Value) : ∀ (l : List Nat) (S : Nat → Prop) (a : Act), Slots ops a0 vals S a → apartB ops l = true → (∀ j ∈ l, ¬ S j) →
    (∀ j ∈ l, ∀ k, S k → ∀ d, dstAt ops k = some d → dstAt ops j ≠ some d) → Slots ops a0 vals (fun k => S k ∨ k ∈ l) (canon ops vals a l) := by
  intro l
  induction l with
  | nil => intro S a h _ _ _; exact h.congr (fun k => by simp) (fun _ _ => rfl)
  | cons j l ih =>
    intro S a h hap hnot hdis
    simp only [apartB, Bool.and_eq_true, List.all_eq_true, bne_iff_ne, ne_eq] at hap
    have h1 := (h.put (vals j) (hnot j (by simp)) (fun k hk d hd => hdis j (by simp) k hk d hd)).congr (vals' := vals) (S' := fun k => S k ∨ k = j) (fun _ => Iff.rfl) (fun k hk => by
      by_cases e : k = j
      · rw [if_pos e, e]
      · rw [if_neg e])
    have h2 := ih _ _ h1 hap.2 (fun k hk hs => by
        rcases hs with hs | hs
        · exact hnot k (by simp [hk]) hs
        · exact (hap.1 k hk).1 hs) (fun k hk i hi d hd => by
        rcases hi with hi | rfl
        · exact hdis k (by simp [hk]) i hi d hd
        · have := (hap.1 k hk).2
          rw [hd] at this
          simpa using this)
    exact h2.congr (fun k => by simp only [List.mem_cons, or_assoc]) (fun _ _ => rfl)

/-- what an operation gives, in a frame and a world: a value and a world; it neither panics nor defers -/
def Oper.gives (P : Program) (o : Oper) (a : Act) (w : World) (T : Value → World → Prop) : Prop :=
  match (execOp a.eval o).run P w with
  | .ok (.value v) w' => T v w'
  | .ok .skip w' => T undef w'
  | .ok (.enter f args) w' => Calls P f args w' fun e w'' => ∃ v, e = .returned v ∧ T v w''
  | _ => False
theorem Oper.gives_wp {o : Oper} {a a' : Act} {w : World} {T : Value → World → Prop} {K : Act → World → Prop} (he : execOp a'.eval o = execOp a.eval o)
    (h : Oper.gives P o a w T) (hK : ∀ v w', T v w' → K (a'.put o.dst v) w') : o.wp P a' w K Q := by
  unfold Oper.gives at h
  unfold Oper.wp
  rw [he]
  generalize (execOp a.eval o).run P w = r at *
  cases r with
  | ok n w' =>
    cases n <;> simp only [Oper.upon] at h ⊢
    case value v => exact hK _ _ h
    case skip => exact hK _ _ h
    case enter f args => exact h.mono fun e w'' ⟨v, hv, ht⟩ => by subst hv; exact hK _ _ ht
  | halt x w' => simp at h

/-- does the table of what each operation waits for fit the region? 'rem': the operations that are still to come; 'pre': for each the ones among them that have come up ahead of it. -/
def preB (md : Region.Mode) (ops : Array Oper) (listed : Array Bool) (rem : List Nat) (pre : Nat → List Nat) : Bool :=
  (listed.size == ops.size) && Region.noSelect ops && apartB ops rem &&
  ((List.range ops.size).all fun j => (listed.getD j true) == !(rem.contains j)) &&
  (rem.all fun j => decide (j < ops.size)) &&
  (rem.all fun j =>
    match ops[j]? with
    | none => false
    | some o =>
      (o.after.all fun e => !Region.binds md e || decide (e.on < j)) &&
      ((pre j).all fun k => rem.contains k && (o.after.any fun e => Region.binds md e && (e.on == k || (rem.contains e.on && (pre e.on).contains k)))) &&
      apartB ops (pre j) &&
      (rem.all fun i => i == j || (pre j).contains i || (pre i).contains j ||
        (match dstAt ops i with
         | some d => !(o.looksAt ops).contains d
         | none => true)))

theorem wanted_congr {o : Oper} {a a' : Act} (h : ∀ d ∈ o.looksAt ops, a'.tmps.getD d undef = a.tmps.getD d undef) : Region.wanted o (yielded ops a'.tmps) = Region.wanted o (yielded ops a.tmps) := by
  unfold Region.wanted
  cases hg : o.guard with
  | none => rfl
  | some gw =>
    obtain ⟨g, want⟩ := gw
    have hy : yielded ops a'.tmps g = yielded ops a.tmps g := by
      unfold yielded
      cases ht : (ops[g]?).bind (·.dst) with
      | none => rfl
      | some t =>
        have h1 := h t (by simp [Oper.looksAt, hg, ht])
        have key : ∀ x y : Option Value, x.getD undef = y.getD undef → (match x with | some (Value.bool b) => some b | _ => none) = (match y with | some (Value.bool b) => some b | _ => none) := by
          intro x y hxy
          cases x <;> cases y <;> simp only [Option.getD_none, Option.getD_some] at hxy
          · rfl
          · rw [← hxy]; rfl
          · rw [hxy]; rfl
          · rw [hxy]
        exact key _ _ (by simpa using h1)
    simp only [hy]
theorem exec_congr {o : Oper} {a a' : Act} (hs : ∀ cs b, o.op ≠ .select cs b) (h : ∀ d ∈ o.looksAt ops, a'.tmps.getD d undef = a.tmps.getD d undef) : execOp a'.eval o = execOp a.eval o :=
  execOp_congr o hs fun x hx => by
    cases x with
    | tmp t => exact h t (List.mem_append_left _ (List.mem_filterMap.2 ⟨.tmp t, by simpa using hx, rfl⟩))
    | const v => rfl
    | global g => rfl
    | func f => rfl

/-- THE RULE -/
theorem wpAny_facts (listed0 : Array Bool) (rem : List Nat) (pre : Nat → List Nat) (hB : preB md ops listed0 rem pre = true) (a0 : Act) (w0 : World)
    (R : World → World → Prop) (hrefl : ∀ w, R w w) (htrans : ∀ w w', R w0 w → R w w' → R w0 w') (A : Nat → Value → World → Prop) (hmono : ∀ j v w w', R w w' → A j v w → A j v w')
    (hop : ∀ j ∈ rem, ∀ o, ops[j]? = some o → ∀ (vals : Nat → Value) (w : World), R w0 w → (∀ k ∈ pre j, A k (vals k) w) →
      if Region.wanted o (yielded ops (canon ops vals a0 (pre j)).tmps) = true then Oper.gives P o (canon ops vals a0 (pre j)) w (fun v w' => A j v w' ∧ R w w') else A j undef w)
    (hfin : ∀ (vals : Nat → Value) (w : World), R w0 w → (∀ k ∈ rem, A k (vals k) w) → Q .normal (canon ops vals a0 rem) w) :
    ∀ (fuel : Nat), fuel = rem.length → wpAny P md ops Q fuel listed0 a0 w0 := by
  simp only [preB, Bool.and_eq_true, beq_iff_eq, List.all_eq_true] at hB
  obtain ⟨⟨⟨⟨⟨hsz, hsel⟩, hap⟩, hl0⟩, hin⟩, hall⟩ := hB
  have hselS := Region.noSelect_spec hsel
  -- the invariant
  have key : ∀ (fuel : Nat) (listed : Array Bool) (S : Nat → Prop) (vals : Nat → Value) (a : Act) (w : World) (todo : List Nat), listed.size = ops.size → todo.length = fuel → todo.Nodup →
      (∀ j, j ∈ todo ↔ (j ∈ rem ∧ ¬ S j)) → (∀ j, j < ops.size → (listed.getD j true = false ↔ j ∈ todo)) → (∀ j, S j → j ∈ rem) →
      Slots ops a0 vals S a → R w0 w → (∀ j, S j → A j (vals j) w) → (∀ j, S j → ∀ k ∈ pre j, S k) → wpAny P md ops Q fuel listed a w := by
    have fin : ∀ (S : Nat → Prop) (vals : Nat → Value) (a : Act) (w : World), (∀ j, S j ↔ j ∈ rem) → Slots ops a0 vals S a → R w0 w → (∀ j, S j → A j (vals j) w) → Q .normal a w := by
      intro S vals a w hS hsl hR hA
      have h1 := canon_slots (ops := ops) (a0 := a0) vals rem (fun _ => False) a0 Slots.nil hap (fun _ _ h => h) (fun _ _ _ h => h.elim)
      have h2 := hsl.congr (S' := fun k => False ∨ k ∈ rem) (vals' := vals) (fun k => by simp [hS k]) (fun _ _ => rfl)
      rw [Slots.ext h2 h1]
      exact hfin vals w hR fun k hk => hA k ((hS k).2 hk)
    intro fuel
    induction fuel with
    | zero =>
      intro listed S vals a w todo hls htl hnd htodo hlist hSr hsl hR hA hpre
      have hnil : todo = [] := List.eq_nil_of_length_eq_zero htl
      have hready : Region.ready md ops listed = [] := by
        rw [List.eq_nil_iff_forall_not_mem]
        intro i hi
        obtain ⟨hun, o, ho, _⟩ := mem_ready.1 hi
        have hlt : i < ops.size := (Array.getElem?_eq_some_iff.1 ho).1
        have := (hlist i hlt).1 hun
        rw [hnil] at this
        cases this
      refine ⟨hready, fin S vals a w (fun j => ⟨hSr j, fun hj => ?_⟩) hsl hR hA⟩
      by_cases hs : S j
      · exact hs
      · have := (htodo j).2 ⟨hj, hs⟩
        rw [hnil] at this
        cases this
    | succ fuel ih =>
      intro listed S vals a w todo hls htl hnd htodo hlist hSr hsl hR hA hpre
      have hin' : ∀ j ∈ rem, j < ops.size := fun j hj => by simpa using hin j hj
      -- something can come up
      have hex : ∀ n j, j ∈ todo → j < n → ∃ i, i ∈ Region.ready md ops listed := by
        intro n
        induction n with
        | zero => intro j _ hj; omega
        | succ n ihn =>
          intro j hj hjn
          have hjr := ((htodo j).1 hj).1
          have hjl := hin' j hjr
          obtain ⟨o, ho⟩ : ∃ o, ops[j]? = some o := ⟨ops[j], Array.getElem?_eq_getElem hjl⟩
          by_cases hrd : ∀ e ∈ o.after, Region.binds md e = true → listed.getD e.on false = true
          · exact ⟨j, mem_ready.2 ⟨(hlist j hjl).2 hj, o, ho, hrd⟩⟩
          · have : ∃ e, e ∈ o.after ∧ Region.binds md e = true ∧ listed.getD e.on false = false := by
              apply Classical.byContradiction
              intro hno
              exact hrd fun e he hb => by
                cases hx : listed.getD e.on false with
                | true => rfl
                | false => exact absurd ⟨e, he, hb, hx⟩ hno
            obtain ⟨e, he, hb, hx⟩ := this
            have hj1 := hall j hjr
            rw [ho] at hj1
            simp only [Bool.and_eq_true, Array.all_eq_true_iff_forall_mem, Bool.or_eq_true, Bool.not_eq_true', decide_eq_true_eq] at hj1
            have hlt : e.on < j := by
              rcases hj1.1.1.1 e he with h | h
              · rw [hb] at h; cases h
              · exact h
            have hel : e.on < listed.size := by omega
            have hun : listed.getD e.on true = false := by
              simp [hel] at hx ⊢; exact hx
            exact ihn e.on ((hlist e.on (by omega)).1 hun) (by omega)
      refine ⟨fun hnone => ?_, fun i hi => ?_⟩
      · cases htd : todo with
        | nil => rw [htd] at htl; simp at htl
        | cons j l =>
          obtain ⟨i, hi⟩ := hex (j + 1) j (by simp [htd]) (by omega)
          rw [hnone] at hi
          cases hi
      · obtain ⟨hun, o, ho, hafter⟩ := mem_ready.1 hi
        have hil : i < ops.size := (Array.getElem?_eq_some_iff.1 ho).1
        have hit := (hlist i hil).1 hun
        obtain ⟨hir, hiS⟩ := (htodo i).1 hit
        have hi1 := hall i hir
        rw [ho] at hi1
        simp only [Bool.and_eq_true, List.all_eq_true] at hi1
        obtain ⟨⟨⟨_, hprei⟩, hapi⟩, hothers⟩ := hi1
        -- what it waits for has come up
        have hSof : ∀ k ∈ rem, listed.getD k false = true → S k := fun k hk hl => by
          apply Classical.byContradiction
          intro hs
          have h1 := (hlist k (hin' k hk)).2 ((htodo k).2 ⟨hk, hs⟩)
          have : k < listed.size := by rw [hls]; exact hin' k hk
          simp [this] at h1 hl
          rw [h1] at hl
          cases hl
        have hwait : ∀ k ∈ pre i, S k := fun k hk => by
          have h1 := hprei k hk
          simp only [Bool.and_eq_true, Array.any_eq_true', Bool.or_eq_true, beq_iff_eq, List.contains_iff_mem] at h1
          obtain ⟨hkr, e, he, hb, h2⟩ := h1
          have hl := hafter e he hb
          rcases h2 with h2 | ⟨h2, h3⟩
          · rw [← h2]; exact hSof _ (by rw [h2]; exact hkr) hl
          · exact hpre _ (hSof _ h2 hl) k h3
        have hcan := canon_slots (ops := ops) (a0 := a0) vals (pre i) (fun _ => False) a0 Slots.nil hapi (fun _ _ h => h) (fun _ _ _ h => h.elim)
        have hagree : ∀ d ∈ o.looksAt ops, a.tmps.getD d undef = (canon ops vals a0 (pre i)).tmps.getD d undef := fun d hd => by
          by_cases hlt : d < a0.tmps.size
          · by_cases hw : ∃ k, k ∈ pre i ∧ dstAt ops k = some d
            · obtain ⟨k, hk, hkd⟩ := hw
              rw [hsl.on k d (hwait k hk) hkd hlt, hcan.on k d (.inr hk) hkd hlt]
            · rw [hcan.off d fun k hk hkd => hw ⟨k, by simpa using hk, hkd⟩]
              refine hsl.off d fun k hk hkd => ?_
              have h1 := hothers k (hSr k hk)
              simp only [Bool.or_eq_true, beq_iff_eq, List.contains_iff_mem, hkd, Bool.not_eq_true'] at h1
              rcases h1 with ((h1 | h1) | h1) | h1
              · rw [h1] at hk; exact hiS hk
              · exact hw ⟨k, h1, hkd⟩
              · exact hiS (hpre k hk i h1)
              · have : (o.looksAt ops).contains d = true := List.contains_iff_mem.2 hd
                rw [this] at h1; cases h1
          · rw [getD_big (by rw [hsl.size]; exact Nat.le_of_not_lt hlt), getD_big (by rw [hcan.size]; exact Nat.le_of_not_lt hlt)]
        have hexec := exec_congr (ops := ops) (o := o) (fun cs b => hselS i o cs b ho) hagree
        have hwant := wanted_congr (ops := ops) (o := o) hagree
        have hob := hop i hir o ho vals w hR fun k hk => hA k (hwait k hk)
        have hod : o.dst = dstAt ops i := by simp [dstAt, ho]
        -- behind it
        have next : ∀ v w', A i v w' → R w w' → wpAny P md ops Q fuel (listed.setIfInBounds i true) (a.put o.dst v) w' := fun v w' hAv hRw => by
          have hdis : ∀ k, S k → ∀ d, dstAt ops k = some d → dstAt ops i ≠ some d := by
            intro k hk d hkd hid
            have hki : k ≠ i := by rintro rfl; exact hiS hk
            have : ∀ l : List Nat, apartB ops l = true → k ∈ l → i ∈ l → False := by
              intro l
              induction l with
              | nil => intro _ h; cases h
              | cons x l ihl =>
                intro hb hk' hi'
                simp only [apartB, Bool.and_eq_true, List.all_eq_true, bne_iff_ne, ne_eq] at hb
                rcases List.mem_cons.1 hk' with hk2 | hk2 <;> rcases List.mem_cons.1 hi' with hi2 | hi2
                · exact hki (hk2.trans hi2.symm)
                · have := (hb.1 i hi2).2
                  rw [← hk2, hkd] at this
                  simp [hid] at this
                · have := (hb.1 k hk2).2
                  rw [← hi2, hid] at this
                  simp [hkd] at this
                · exact ihl hb.2 hk2 hi2
            exact this rem hap (hSr k hk) hir
          rw [hod]
          refine ih (listed.setIfInBounds i true) (fun k => S k ∨ k = i) _ _ w' (todo.erase i) (by simp [hls]) ?_ (hnd.erase i) ?_ ?_ ?_ (hsl.put v hiS hdis) (htrans _ _ hR hRw) ?_ ?_
          · rw [List.length_erase_of_mem hit, htl]; rfl
          · intro j
            by_cases hji : j = i
            · subst hji
              constructor
              · intro hm; exact absurd hm hnd.not_mem_erase
              · intro ⟨_, h⟩; exact absurd (.inr rfl) h
            · rw [List.mem_erase_of_ne hji, htodo j]
              constructor
              · intro ⟨h1, h2⟩; exact ⟨h1, fun h => by rcases h with h | h; exact h2 h; exact hji h⟩
              · intro ⟨h1, h2⟩; exact ⟨h1, fun h => h2 (.inl h)⟩
          · intro j hj
            by_cases hji : j = i
            · subst hji
              constructor
              · intro h
                have hlt : j < listed.size := by omega
                simp [hlt] at h
              · intro hm; exact absurd hm hnd.not_mem_erase
            · rw [List.mem_erase_of_ne hji, ← hlist j hj, getD_set_ne true (Ne.symm hji)]
          · intro j hj
            rcases hj with hj | rfl
            · exact hSr j hj
            · exact hir
          · intro j hj
            by_cases hji : j = i
            · rw [if_pos hji, hji]; exact hAv
            · rw [if_neg hji]
              rcases hj with hj | hj
              · exact hmono _ _ _ _ hRw (hA j hj)
              · exact absurd hj hji
          · intro j hj k hk
            rcases hj with hj | rfl
            · exact .inl (hpre j hj k hk)
            · exact .inl (hwait k hk)
        unfold wpOp
        simp only [ho]
        rw [hwant]
        split
        · rename_i hw
          rw [if_pos hw] at hob
          exact .inl (Oper.gives_wp hexec hob fun v w' ⟨h1, h2⟩ => next v w' h1 h2)
        · rename_i hw
          rw [if_neg hw] at hob
          exact next undef w hob (hrefl w)
  have nodup_of : ∀ l : List Nat, apartB ops l = true → l.Nodup := by
    intro l
    induction l with
    | nil => intro _; exact List.nodup_nil
    | cons x l ihl =>
      intro hb
      simp only [apartB, Bool.and_eq_true, List.all_eq_true, bne_iff_ne, ne_eq] at hb
      exact List.nodup_cons.2 ⟨fun hx => (hb.1 x hx).1 rfl, ihl hb.2⟩
  intro fuel hf
  refine key fuel listed0 (fun _ => False) (fun _ => undef) a0 w0 rem hsz hf.symm (nodup_of rem hap) (fun j => by simp) (fun j hj => ?_) (fun _ h => h.elim) Slots.nil (hrefl w0) (fun _ h => h.elim) (fun _ h => h.elim)
  have h1 := hl0 j (List.mem_range.2 hj)
  rw [h1]
  simp

/-- the table of what each operation of the head waits for -/
def preT (md : Region.Mode) (ops : Array Oper) (n : Nat) (pre : Nat → List Nat) : Bool :=
  Region.noSelect ops && apartB ops (List.range n) &&
  ((List.range n).all fun j =>
    match ops[j]? with
    | none => false
    | some o =>
      (o.after.all fun e => !Region.binds md e || decide (e.on < j)) &&
      ((pre j).all fun k => (List.range n).contains k && (o.after.any fun e => Region.binds md e && (e.on == k || ((List.range n).contains e.on && (pre e.on).contains k)))) &&
      apartB ops (pre j) &&
      ((List.range n).all fun i => i == j || (pre j).contains i || (pre i).contains j ||
        (match dstAt ops i with
         | some d => !(o.looksAt ops).contains d
         | none => true)))
/-- the head has come up, the tail has not -/
def headArr (ops : Array Oper) (n : Nat) : Array Bool := (Array.range ops.size).map fun i => decide (i < n)
/-- THE RULE, where a chain of operations waits for all that was shown -/
theorem wpAny_facts_tail (n : Nat) (hn : n < ops.size) (hsink : Region.sinkB md ops n = true) (hchain : Region.chainB md ops n = true) (pre : Nat → List Nat) (hB : preT md ops n pre = true) (a0 : Act) (w0 : World)
    (R : World → World → Prop) (hrefl : ∀ w, R w w) (htrans : ∀ w w', R w0 w → R w w' → R w0 w') (A : Nat → Value → World → Prop) (hmono : ∀ j v w w', R w w' → A j v w → A j v w')
    (hop : ∀ j ∈ List.range n, ∀ o, ops[j]? = some o → ∀ (vals : Nat → Value) (w : World), R w0 w → (∀ k ∈ pre j, A k (vals k) w) →
      if Region.wanted o (yielded ops (canon ops vals a0 (pre j)).tmps) = true then Oper.gives P o (canon ops vals a0 (pre j)) w (fun v w' => A j v w' ∧ R w w') else A j undef w)
    (hfin : ∀ (vals : Nat → Value) (w : World), R w0 w → (∀ k ∈ List.range n, A k (vals k) w) → wpAny P md ops Q (ops.size - n) (headArr ops n) (canon ops vals a0 (List.range n)) w) :
    wpAny P md ops Q ops.size (Array.replicate ops.size false) a0 w0 := by
  obtain ⟨rem, hrem⟩ : ∃ rem, rem = List.range n := ⟨_, rfl⟩
  rw [← hrem] at hop hfin
  simp only [preT, Bool.and_eq_true, List.all_eq_true] at hB
  rw [← hrem] at hB
  obtain ⟨⟨hsel, hap⟩, hall⟩ := hB
  have hin : ∀ j ∈ rem, j < ops.size := fun j hj => by rw [hrem] at hj; have := List.mem_range.1 hj; omega
  have hselS := Region.noSelect_spec hsel
  -- the invariant
  have key : ∀ (fuel : Nat) (listed : Array Bool) (S : Nat → Prop) (vals : Nat → Value) (a : Act) (w : World) (todo : List Nat), listed.size = ops.size → todo.length = fuel → todo.Nodup → HeadInv md ops n listed →
      (∀ j, j ∈ todo ↔ (j ∈ rem ∧ ¬ S j)) → (∀ j, j < n → (listed.getD j true = false ↔ j ∈ todo)) → (∀ j, S j → j ∈ rem) →
      Slots ops a0 vals S a → R w0 w → (∀ j, S j → A j (vals j) w) → (∀ j, S j → ∀ k ∈ pre j, S k) → wpAny P md ops Q (fuel + (ops.size - n)) listed a w := by
    have fin : ∀ (S : Nat → Prop) (vals : Nat → Value) (a : Act) (w : World), (∀ j, S j ↔ j ∈ rem) → Slots ops a0 vals S a → R w0 w → (∀ j, S j → A j (vals j) w) → wpAny P md ops Q (ops.size - n) (headArr ops n) a w := by
      intro S vals a w hS hsl hR hA
      have h1 := canon_slots (ops := ops) (a0 := a0) vals rem (fun _ => False) a0 Slots.nil hap (fun _ _ h => h) (fun _ _ _ h => h.elim)
      have h2 := hsl.congr (S' := fun k => False ∨ k ∈ rem) (vals' := vals) (fun k => by simp [hS k]) (fun _ _ => rfl)
      rw [Slots.ext h2 h1]
      exact hfin vals w hR fun k hk => hA k ((hS k).2 hk)
    intro fuel
    induction fuel with
    | zero =>
      intro listed S vals a w todo hls htl hnd hinv htodo hlist hSr hsl hR hA hpre
      have hnil : todo = [] := List.eq_nil_of_length_eq_zero htl
      have hlst : listed = headArr ops n := by
        apply Array.ext
        · rw [hls]; simp [headArr]
        · intro i h1 h2
          have hi : listed.getD i true = decide (i < n) := by
            by_cases hin' : i < n
            · have h3 : ¬ listed.getD i true = false := fun h => by
                have := (hlist i hin').1 h
                rw [hnil] at this
                cases this
              simp only [hin', decide_true]
              cases hx : listed.getD i true with
              | true => rfl
              | false => exact absurd hx h3
            · simp only [hin', decide_false]
              exact hinv.tail i (by omega) (by omega)
          have h4 : (headArr ops n)[i] = decide (i < n) := by simp [headArr]
          rw [h4, ← hi]
          simp [h1]
      rw [Nat.zero_add, hlst]
      refine fin S vals a w (fun j => ⟨hSr j, fun hj => ?_⟩) hsl hR hA
      by_cases hs : S j
      · exact hs
      · have := (htodo j).2 ⟨hj, hs⟩
        rw [hnil] at this
        cases this
    | succ fuel ih =>
      intro listed S vals a w todo hls htl hnd hinv htodo hlist hSr hsl hR hA hpre
      have hin' : ∀ j ∈ rem, j < ops.size := hin
      have hn' : ∀ j ∈ rem, j < n := fun j hj => by rw [hrem] at hj; exact List.mem_range.1 hj
      rw [show fuel + 1 + (ops.size - n) = (fuel + (ops.size - n)) + 1 by omega]
      -- something can come up
      have hex : ∀ n j, j ∈ todo → j < n → ∃ i, i ∈ Region.ready md ops listed := by
        intro n
        induction n with
        | zero => intro j _ hj; omega
        | succ n ihn =>
          intro j hj hjn
          have hjr := ((htodo j).1 hj).1
          have hjl := hin' j hjr
          obtain ⟨o, ho⟩ : ∃ o, ops[j]? = some o := ⟨ops[j], Array.getElem?_eq_getElem hjl⟩
          by_cases hrd : ∀ e ∈ o.after, Region.binds md e = true → listed.getD e.on false = true
          · exact ⟨j, mem_ready.2 ⟨(hlist j (hn' j hjr)).2 hj, o, ho, hrd⟩⟩
          · have : ∃ e, e ∈ o.after ∧ Region.binds md e = true ∧ listed.getD e.on false = false := by
              apply Classical.byContradiction
              intro hno
              exact hrd fun e he hb => by
                cases hx : listed.getD e.on false with
                | true => rfl
                | false => exact absurd ⟨e, he, hb, hx⟩ hno
            obtain ⟨e, he, hb, hx⟩ := this
            have hj1 := hall j hjr
            rw [ho] at hj1
            simp only [Bool.and_eq_true, Array.all_eq_true_iff_forall_mem, Bool.or_eq_true, Bool.not_eq_true', decide_eq_true_eq] at hj1
            have hlt : e.on < j := by
              rcases hj1.1.1.1 e he with h | h
              · rw [hb] at h; cases h
              · exact h
            have hel : e.on < listed.size := by omega
            have hun : listed.getD e.on true = false := by
              simp [hel] at hx ⊢; exact hx
            exact ihn e.on ((hlist e.on (by have := hn' j hjr; omega)).1 hun) (by omega)
      refine ⟨fun hnone => ?_, fun i hi => ?_⟩
      · cases htd : todo with
        | nil => rw [htd] at htl; simp at htl
        | cons j l =>
          obtain ⟨i, hi⟩ := hex (j + 1) j (by simp [htd]) (by omega)
          rw [hnone] at hi
          cases hi
      · obtain ⟨hun, o, ho, hafter⟩ := mem_ready.1 hi
        have hil : i < ops.size := (Array.getElem?_eq_some_iff.1 ho).1
        have hin1 : i < n := by
          rcases Nat.lt_or_ge i n with h | h
          · exact h
          · cases htd : todo with
            | nil => rw [htd] at htl; simp at htl
            | cons j l =>
              have hj : j ∈ todo := by simp [htd]
              have hjn := hn' j ((htodo j).1 hj).1
              exact absurd hi (tail_waits hsink hchain hn hinv _ j rfl hjn ((hlist j hjn).2 hj) i h)
        have hit := (hlist i hin1).1 hun
        obtain ⟨hir, hiS⟩ := (htodo i).1 hit
        have hi1 := hall i hir
        rw [ho] at hi1
        simp only [Bool.and_eq_true, List.all_eq_true] at hi1
        obtain ⟨⟨⟨_, hprei⟩, hapi⟩, hothers⟩ := hi1
        -- what it waits for has come up
        have hSof : ∀ k ∈ rem, listed.getD k false = true → S k := fun k hk hl => by
          apply Classical.byContradiction
          intro hs
          have h1 := (hlist k (hn' k hk)).2 ((htodo k).2 ⟨hk, hs⟩)
          have : k < listed.size := by rw [hls]; exact hin' k hk
          simp [this] at h1 hl
          rw [h1] at hl
          cases hl
        have hwait : ∀ k ∈ pre i, S k := fun k hk => by
          have h1 := hprei k hk
          simp only [Bool.and_eq_true, Array.any_eq_true', Bool.or_eq_true, beq_iff_eq, List.contains_iff_mem] at h1
          obtain ⟨hkr, e, he, hb, h2⟩ := h1
          have hl := hafter e he hb
          rcases h2 with h2 | ⟨h2, h3⟩
          · rw [← h2]; exact hSof _ (by rw [h2]; exact hkr) hl
          · exact hpre _ (hSof _ h2 hl) k h3
        have hcan := canon_slots (ops := ops) (a0 := a0) vals (pre i) (fun _ => False) a0 Slots.nil hapi (fun _ _ h => h) (fun _ _ _ h => h.elim)
        have hagree : ∀ d ∈ o.looksAt ops, a.tmps.getD d undef = (canon ops vals a0 (pre i)).tmps.getD d undef := fun d hd => by
          by_cases hlt : d < a0.tmps.size
          · by_cases hw : ∃ k, k ∈ pre i ∧ dstAt ops k = some d
            · obtain ⟨k, hk, hkd⟩ := hw
              rw [hsl.on k d (hwait k hk) hkd hlt, hcan.on k d (.inr hk) hkd hlt]
            · rw [hcan.off d fun k hk hkd => hw ⟨k, by simpa using hk, hkd⟩]
              refine hsl.off d fun k hk hkd => ?_
              have h1 := hothers k (hSr k hk)
              simp only [Bool.or_eq_true, beq_iff_eq, List.contains_iff_mem, hkd, Bool.not_eq_true'] at h1
              rcases h1 with ((h1 | h1) | h1) | h1
              · rw [h1] at hk; exact hiS hk
              · exact hw ⟨k, h1, hkd⟩
              · exact hiS (hpre k hk i h1)
              · have : (o.looksAt ops).contains d = true := List.contains_iff_mem.2 hd
                rw [this] at h1; cases h1
          · rw [getD_big (by rw [hsl.size]; exact Nat.le_of_not_lt hlt), getD_big (by rw [hcan.size]; exact Nat.le_of_not_lt hlt)]
        have hexec := exec_congr (ops := ops) (o := o) (fun cs b => hselS i o cs b ho) hagree
        have hwant := wanted_congr (ops := ops) (o := o) hagree
        have hob := hop i hir o ho vals w hR fun k hk => hA k (hwait k hk)
        have hod : o.dst = dstAt ops i := by simp [dstAt, ho]
        -- behind it
        have next : ∀ v w', A i v w' → R w w' → wpAny P md ops Q (fuel + (ops.size - n)) (listed.setIfInBounds i true) (a.put o.dst v) w' := fun v w' hAv hRw => by
          have hdis : ∀ k, S k → ∀ d, dstAt ops k = some d → dstAt ops i ≠ some d := by
            intro k hk d hkd hid
            have hki : k ≠ i := by rintro rfl; exact hiS hk
            have : ∀ l : List Nat, apartB ops l = true → k ∈ l → i ∈ l → False := by
              intro l
              induction l with
              | nil => intro _ h; cases h
              | cons x l ihl =>
                intro hb hk' hi'
                simp only [apartB, Bool.and_eq_true, List.all_eq_true, bne_iff_ne, ne_eq] at hb
                rcases List.mem_cons.1 hk' with hk2 | hk2 <;> rcases List.mem_cons.1 hi' with hi2 | hi2
                · exact hki (hk2.trans hi2.symm)
                · have := (hb.1 i hi2).2
                  rw [← hk2, hkd] at this
                  simp [hid] at this
                · have := (hb.1 k hk2).2
                  rw [← hi2, hid] at this
                  simp [hkd] at this
                · exact ihl hb.2 hk2 hi2
            exact this rem hap (hSr k hk) hir
          rw [hod]
          refine ih (listed.setIfInBounds i true) (fun k => S k ∨ k = i) _ _ w' (todo.erase i) (by simp [hls]) ?_ (hnd.erase i) (hinv.set hi hin1) ?_ ?_ ?_ (hsl.put v hiS hdis) (htrans _ _ hR hRw) ?_ ?_
          · rw [List.length_erase_of_mem hit, htl]; rfl
          · intro j
            by_cases hji : j = i
            · subst hji
              constructor
              · intro hm; exact absurd hm hnd.not_mem_erase
              · intro ⟨_, h⟩; exact absurd (.inr rfl) h
            · rw [List.mem_erase_of_ne hji, htodo j]
              constructor
              · intro ⟨h1, h2⟩; exact ⟨h1, fun h => by rcases h with h | h; exact h2 h; exact hji h⟩
              · intro ⟨h1, h2⟩; exact ⟨h1, fun h => h2 (.inl h)⟩
          · intro j hj
            by_cases hji : j = i
            · subst hji
              constructor
              · intro h
                have hlt : j < listed.size := by omega
                simp [hlt] at h
              · intro hm; exact absurd hm hnd.not_mem_erase
            · rw [List.mem_erase_of_ne hji, ← hlist j hj, getD_set_ne true (Ne.symm hji)]
          · intro j hj
            rcases hj with hj | rfl
            · exact hSr j hj
            · exact hir
          · intro j hj
            by_cases hji : j = i
            · rw [if_pos hji, hji]; exact hAv
            · rw [if_neg hji]
              rcases hj with hj | hj
              · exact hmono _ _ _ _ hRw (hA j hj)
              · exact absurd hj hji
          · intro j hj k hk
            rcases hj with hj | rfl
            · exact .inl (hpre j hj k hk)
            · exact .inl (hwait k hk)
        unfold wpOp
        simp only [ho]
        rw [hwant]
        split
        · rename_i hw
          rw [if_pos hw] at hob
          exact .inl (Oper.gives_wp hexec hob fun v w' ⟨h1, h2⟩ => next v w' h1 h2)
        · rename_i hw
          rw [if_neg hw] at hob
          exact next undef w hob (hrefl w)
  have nodup_of : ∀ l : List Nat, apartB ops l = true → l.Nodup := by
    intro l
    induction l with
    | nil => intro _; exact List.nodup_nil
    | cons x l ihl =>
      intro hb
      simp only [apartB, Bool.and_eq_true, List.all_eq_true, bne_iff_ne, ne_eq] at hb
      exact List.nodup_cons.2 ⟨fun hx => (hb.1 x hx).1 rfl, ihl hb.2⟩
  have hlen : rem.length = n := by rw [hrem]; simp
  have inv0 : HeadInv md ops n (Array.replicate ops.size false) :=
    ⟨by simp, fun j oj _ hl => (by rw [getD_replicate_false] at hl; cases hl), fun t _ ht => getD_in (by simpa using ht) (getD_replicate_false _ _)⟩
  have h := key n (Array.replicate ops.size false) (fun _ => False) (fun _ => undef) a0 w0 rem (by simp) hlen (nodup_of rem hap) inv0 (fun j => by simp) (fun j hj => by
    have h2 : j < ops.size := by omega
    constructor
    · intro _; rw [hrem]; exact List.mem_range.2 hj
    · intro _; simp [h2]) (fun _ h => h.elim) Slots.nil (hrefl w0) (fun _ h => h.elim) (fun _ h => h.elim)
  rw [show n + (ops.size - n) = ops.size by omega] at h
  exact h

/-! the rule, for regions that are written out -/
def canonP (vals : Nat → Value) (a : Act) : List (Nat × Option Tmp) → Act
  | [] => a
  | p :: l => canonP vals (a.put p.2 (vals p.1)) l
def factsP (A : Nat → Value → World → Prop) (vals : Nat → Value) (w : World) : List (Nat × Option Tmp) → Prop
  | [] => True
  | p :: l => A p.1 (vals p.1) w ∧ factsP A vals w l
theorem canonP_eq (vals : Nat → Value) : ∀ (l : List (Nat × Option Tmp)) (a : Act), (l.all fun p => dstAt ops p.1 == p.2) = true → canonP vals a l = canon ops vals a (l.map (·.1)) := by
  intro l
  induction l with
  | nil => intro a _; rfl
  | cons p l ih =>
    intro a h
    simp only [List.all_cons, Bool.and_eq_true, beq_iff_eq] at h
    simp only [List.map_cons, canonP, canon, h.1]
    exact ih _ h.2
theorem factsP_of {A : Nat → Value → World → Prop} {vals : Nat → Value} {w : World} : ∀ (l : List (Nat × Option Tmp)), (∀ k ∈ l.map (·.1), A k (vals k) w) → factsP A vals w l := by
  intro l
  induction l with
  | nil => intro _; trivial
  | cons p l ih => intro h; exact ⟨h p.1 (by simp), ih fun k hk => h k (by simp only [List.map_cons, List.mem_cons]; exact .inr hk)⟩
/-- each operation, once -/
def OpsOK (P : Program) (ops : Array Oper) (a0 : Act) (w0 : World) (R : World → World → Prop) (A : Nat → Value → World → Prop) (pre : Nat → List (Nat × Option Tmp)) : Nat → List Oper → Prop
  | _, [] => True
  | j, o :: rest => (∀ (vals : Nat → Value) (w : World), R w0 w → factsP A vals w (pre j) →
      if Region.wanted o (yielded ops (canonP vals a0 (pre j)).tmps) = true then Oper.gives P o (canonP vals a0 (pre j)) w (fun v w' => A j v w' ∧ R w w') else A j undef w) ∧ OpsOK P ops a0 w0 R A pre (j + 1) rest
theorem OpsOK.at {P : Program} {ops : Array Oper} {a0 : Act} {w0 : World} {R : World → World → Prop} {A : Nat → Value → World → Prop} {pre : Nat → List (Nat × Option Tmp)} :
    ∀ (l : List Oper) (j : Nat), OpsOK P ops a0 w0 R A pre j l → ∀ i o, l[i]? = some o → ∀ (vals : Nat → Value) (w : World), R w0 w → factsP A vals w (pre (j + i)) →
      if Region.wanted o (yielded ops (canonP vals a0 (pre (j + i))).tmps) = true then Oper.gives P o (canonP vals a0 (pre (j + i))) w (fun v w' => A (j + i) v w' ∧ R w w') else A (j + i) undef w := by
  intro l
  induction l with
  | nil => intro j _ i o h; simp at h
  | cons x l ih =>
    intro j h i o ho
    cases i with
    | zero =>
      have : x = o := by simpa using ho
      subst this
      exact h.1
    | succ i =>
      have := ih (j + 1) h.2 i o (by simpa using ho)
      rw [show j + 1 + i = j + (i + 1) by omega] at this
      exact this
/-- a fact that stays -/
def Stab (R : World → World → Prop) (X : Value → World → Prop) : Prop := ∀ v w w', R w w' → X v w → X v w'
def Is (c : Value) : Value → World → Prop := fun v _ => v = c
theorem is_mk (c : Value) (w : World) : Is c c w := rfl
theorem is_stab (R : World → World → Prop) (c : Value) : Stab R (Is c) := fun _ _ _ _ h => h
def AllStab (R : World → World → Prop) : List (Value → World → Prop) → Prop
  | [] => True
  | X :: l => Stab R X ∧ AllStab R l
theorem AllStab.at {R : World → World → Prop} : ∀ (l : List (Value → World → Prop)) (j : Nat), AllStab R l → Stab R (l.getD j fun _ _ => True) := by
  intro l
  induction l with
  | nil => intro j _ v w w' _ _; trivial
  | cons X l ih =>
    intro j h
    cases j with
    | zero => exact h.1
    | succ j => exact ih j h.2
/-- the facts of the operations, in their order -/
def AllFacts (vals : Nat → Value) (w : World) : Nat → List (Value → World → Prop) → Prop
  | _, [] => True
  | j, X :: l => X (vals j) w ∧ AllFacts vals w (j + 1) l
theorem allFacts_of {vals : Nat → Value} {w : World} : ∀ (l : List (Value → World → Prop)) (j : Nat), (∀ k, k < l.length → (l.getD k fun _ _ => True) (vals (j + k)) w) → AllFacts vals w j l := by
  intro l
  induction l with
  | nil => intro j _; trivial
  | cons X l ih =>
    intro j h
    refine ⟨h 0 (by simp), ih (j + 1) fun k hk => ?_⟩
    have := h (k + 1) (by simpa using hk)
    rw [show j + (k + 1) = j + 1 + k by omega] at this
    exact this
theorem wp_region_facts {id : Nat} {l : List Oper} {a0 : Act} {w : World} (hm : P.follows .mixedOrders = true) (pre : List (List (Nat × Option Tmp))) (all : List (Nat × Option Tmp))
    (hB : preB .any l.toArray (Array.replicate l.length false) (all.map (·.1)) (fun j => (pre.getD j []).map (·.1)) = true)
    (hP : ((all :: pre).all fun q => q.all fun p => dstAt l.toArray p.1 == p.2) = true) (hR : all.map (·.1) = List.range l.length)
    (R : World → World → Prop) (hrefl : ∀ w, R w w) (htrans : ∀ a b c, R a b → R b c → R a c) (A : List (Value → World → Prop)) (hlen : A.length = l.length) (hA : AllStab R A)
    (hop : OpsOK P l.toArray a0 w.drew R (fun j => A.getD j fun _ _ => True) (fun j => pre.getD j []) 0 l)
    (hfin : ∀ (vals : Nat → Value) (w' : World), R w.drew w' → AllFacts vals w' 0 A → Q .normal (canonP vals a0 all) w') : (Code.region id l.toArray true).wp P Q a0 w := by
  have hdst : ∀ q ∈ all :: pre, (q.all fun p => dstAt l.toArray p.1 == p.2) = true := fun q hq => List.all_eq_true.1 hP q hq
  have hpre : ∀ j, ((pre.getD j []).all fun p => dstAt l.toArray p.1 == p.2) = true := fun j => by
    rw [List.getD_eq_getElem?_getD]
    cases h : pre[j]? with
    | none => rfl
    | some q => exact hdst q (List.mem_cons_of_mem _ (List.mem_of_getElem? h))
  refine wp_region_any hm ?_
  refine wpAny_facts (Array.replicate l.length false) (all.map (·.1)) (fun j => (pre.getD j []).map (·.1)) hB a0 w.drew R hrefl (fun a b h h' => htrans _ _ _ h h') (fun j => A.getD j fun _ _ => True)
    (fun j v w w' h hX => AllStab.at A j hA v w w' h hX) ?_ ?_ _ (by rw [hR]; simp)
  · intro j _ o ho vals w' hw hf
    have h1 := hop.at l 0 j o (by simpa using ho) vals w' hw (factsP_of _ (by simpa using hf))
    rw [canonP_eq (ops := l.toArray) vals _ _ (hpre (0 + j)), Nat.zero_add] at h1
    exact h1
  · intro vals w' hw hf
    have h1 := hfin vals w' hw (allFacts_of A 0 fun k hk => by
      rw [Nat.zero_add]
      exact hf k (by rw [hR, List.mem_range, ← hlen]; exact hk))
    rw [canonP_eq (ops := l.toArray) vals _ _ (hdst all (by simp))] at h1
    exact h1
/-- the same with a tail: a chain that waits for all of the head, walked in its order -/
theorem wp_region_facts_tail {id : Nat} {l : List Oper} {a0 : Act} {w : World} (n : Nat) (hm : P.follows .mixedOrders = true)
    (hT : (decide (n < l.toArray.size) && Region.sinkB .any l.toArray n && Region.chainB .any l.toArray n && Region.seqB .any l.toArray (l.toArray.size - n) n (headArr l.toArray n)) = true)
    (pre : List (List (Nat × Option Tmp))) (all : List (Nat × Option Tmp))
    (hB : preT .any l.toArray n (fun j => (pre.getD j []).map (·.1)) = true)
    (hP : ((all :: pre).all fun q => q.all fun p => dstAt l.toArray p.1 == p.2) = true) (hR : all.map (·.1) = List.range n)
    (R : World → World → Prop) (hrefl : ∀ w, R w w) (htrans : ∀ a b c, R a b → R b c → R a c) (A : List (Value → World → Prop)) (hlen : A.length = n) (hA : AllStab R A)
    (hop : OpsOK P l.toArray a0 w.drew R (fun j => A.getD j fun _ _ => True) (fun j => pre.getD j []) 0 (l.take n))
    (hfin : ∀ (vals : Nat → Value) (w' : World), R w.drew w' → AllFacts vals w' 0 A → wpList P l.toArray Q (l.drop n) (canonP vals a0 all) w') : (Code.region id l.toArray true).wp P Q a0 w := by
  simp only [Bool.and_eq_true, decide_eq_true_eq] at hT
  obtain ⟨⟨⟨hn, hsink⟩, hchain⟩, hseq⟩ := hT
  have hn' : n < l.length := by simpa using hn
  have hdst : ∀ q ∈ all :: pre, (q.all fun p => dstAt l.toArray p.1 == p.2) = true := fun q hq => List.all_eq_true.1 hP q hq
  have hpre : ∀ j, ((pre.getD j []).all fun p => dstAt l.toArray p.1 == p.2) = true := fun j => by
    rw [List.getD_eq_getElem?_getD]
    cases h : pre[j]? with
    | none => rfl
    | some q => exact hdst q (List.mem_cons_of_mem _ (List.mem_of_getElem? h))
  refine wp_region_any hm ?_
  refine wpAny_facts_tail n hn hsink hchain (fun j => (pre.getD j []).map (·.1)) hB a0 w.drew R hrefl (fun a b h h' => htrans _ _ _ h h') (fun j => A.getD j fun _ _ => True)
    (fun j v w w' h hX => AllStab.at A j hA v w w' h hX) ?_ ?_
  · intro j hj o ho vals w' hw hf
    have hj' : j < n := List.mem_range.1 hj
    have h1 := hop.at (l.take n) 0 j o (by rw [List.getElem?_take_of_lt hj']; simpa using ho) vals w' hw (factsP_of _ (by simpa using hf))
    rw [canonP_eq (ops := l.toArray) vals _ _ (hpre (0 + j)), Nat.zero_add] at h1
    exact h1
  · intro vals w' hw hf
    have h1 := hfin vals w' hw (allFacts_of A 0 fun k hk => by
      rw [Nat.zero_add]
      exact hf k (by rw [List.mem_range, ← hlen]; exact hk))
    rw [canonP_eq (ops := l.toArray) vals _ _ (hdst all (by simp)), hR] at h1
    have hdl : (l.drop n).length = l.toArray.size - n := by simp
    have h2 := wpAny_of_seq (md := .any) (Q' := Q) (l.drop n) n (headArr l.toArray n) _ w' (fun j => by simp [List.getElem?_drop]) (by rw [hdl]; exact hseq) h1
    rwa [hdl] at h2
end
end Go.Proofs.YtieknecbheeekaaDoor
