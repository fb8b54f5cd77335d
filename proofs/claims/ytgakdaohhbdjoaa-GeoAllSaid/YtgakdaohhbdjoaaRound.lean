/- What was shown of a region in the plain calculus holds in a round of a loop over a function, at the wide fence. -/
import Derived.Test.YtgakdaohhbdjoaaRegion
import Derived.OrdersIn
import Derived.RangeFuncCalls
namespace Go.Proofs.Ytgakdaohhbdjoaa
open Go
section
variable {P : Program} {ops : Array Oper} {Q : Exit → Act → World → Prop} {md : Region.Mode}

theorem oper_round (l n : Nat) {o : Oper} {a : Act} {w : World} {K : Act → World → Prop} (hd : ∀ c, o.op ≠ .defer c) (h : o.wp P a w K Q) : o.wpIn (Fence.wide.inRound l) n P a w K Q := by
  unfold Oper.wp at h
  refine ⟨fun _ _ => trivial, ?_⟩
  rw [Oper.semAt_eq _ _ _ hd]
  generalize (execOp a.eval o).run P w = r at *
  cases r with
  | ok x w' =>
    cases x <;> simp only [Oper.upon, Oper.uponIn] at h ⊢ <;>
      first
        | exact h
        | exact ⟨fun h => (by cases h), CallsIn.inRound l (callsIn_wide.2 h)⟩
        | exact ⟨fun h => (by cases h), fun c cs _ => let ⟨v, w', r, s⟩ := h c cs; ⟨v, w', r, stepsIn_wide.2 s⟩⟩
  | halt x w' => cases x <;> simp only [Oper.upon, Oper.uponIn] at h ⊢ <;> exact h

def noDefer (ops : Array Oper) : Bool := ops.all fun o => match o.op with | .defer _ => false | _ => true
theorem noDefer_at (h : noDefer ops = true) {i : Nat} {o : Oper} (ho : ops[i]? = some o) (c) : o.op ≠ .defer c := by
  intro e
  unfold noDefer at h
  rw [Array.all_eq_true] at h
  obtain ⟨hi, rfl⟩ := Array.getElem?_eq_some_iff.1 ho
  have := h i hi
  rw [e] at this
  cases this

theorem wpAny_round (l n : Nat) (hQ : ¬ LetsOut Q) (hd : noDefer ops = true) : ∀ (fuel : Nat) (listed : Array Bool) (a : Act) (w : World), wpAny P md ops Q fuel listed a w → wpAnyIn (Fence.wide.inRound l) n P md ops Q fuel listed a w := by
  intro fuel
  induction fuel with
  | zero => intro listed a w h; exact h
  | succ fuel ih =>
    intro listed a w h
    refine ⟨h.1, fun i hi => ?_⟩
    have h1 := h.2 i hi
    unfold wpOp at h1
    unfold wpOpIn
    cases ho : ops[i]? with
    | none => simp only [ho] at h1 ⊢; exact ih _ _ _ h1
    | some o =>
      simp only [ho] at h1 ⊢
      split
      · rename_i hw
        rw [if_pos hw] at h1
        rcases h1 with h1 | h1
        · exact Oper.wpIn_mono (fun a w h => ih _ a w h) (oper_round l n (noDefer_at hd ho) h1)
        · exact absurd h1.2 hQ
      · rename_i hw
        rw [if_neg hw] at h1
        exact ⟨fun _ _ => trivial, ih _ _ _ h1⟩

theorem round_region_facts {id : Nat} {l : List Oper} {a0 : Act} {w : World} (lp n : Nat) (hQ : ¬ LetsOut Q) (hd : noDefer l.toArray = true) (hm : P.follows .mixedOrders = true) (pre : List (List (Nat × Option Tmp))) (all : List (Nat × Option Tmp))
    (hB : preB .any l.toArray (Array.replicate l.length false) (all.map (·.1)) (fun j => (pre.getD j []).map (·.1)) = true)
    (hP : ((all :: pre).all fun q => q.all fun p => dstAt l.toArray p.1 == p.2) = true) (hR : all.map (·.1) = List.range l.length)
    (R : World → World → Prop) (hrefl : ∀ w, R w w) (htrans : ∀ a b c, R a b → R b c → R a c) (A : List (Value → World → Prop)) (hlen : A.length = l.length) (hA : AllStab R A)
    (hop : OpsOK P l.toArray a0 w.drew R (fun j => A.getD j fun _ _ => True) (fun j => pre.getD j []) 0 l)
    (hfin : ∀ (vals : Nat → Value) (w' : World), R w.drew w' → AllFacts vals w' 0 A → Q .normal (canonP vals a0 all) w') : (Code.region id l.toArray true).wpIn (Fence.wide.inRound lp) n P Q a0 w := by
  have hdst : ∀ q ∈ all :: pre, (q.all fun p => dstAt l.toArray p.1 == p.2) = true := fun q hq => List.all_eq_true.1 hP q hq
  have hpre : ∀ j, ((pre.getD j []).all fun p => dstAt l.toArray p.1 == p.2) = true := fun j => by
    rw [List.getD_eq_getElem?_getD]
    cases h : pre[j]? with
    | none => rfl
    | some q => exact hdst q (List.mem_cons_of_mem _ (List.mem_of_getElem? h))
  refine wpIn_region_any hm (wpAny_round lp n hQ hd _ _ _ _ ?_)
  refine wpAny_facts (Array.replicate l.length false) (all.map (·.1)) (fun j => (pre.getD j []).map (·.1)) hB a0 w.drew R hrefl (fun a b h h' => htrans _ _ _ h h') (fun j => A.getD j fun _ _ => True)
    (fun j v w w' h hX => AllStab.at A j hA v w w' h hX) ?_ ?_ _ (by rw [hR]; simp)
  · intro j _ o ho vals w' hw hf
    have h1 := hop.at l 0 j o (by simpa using ho) vals w' hw (factsP_of _ (by simpa using hf))
    rw [canonP_eq (ops := l.toArray) vals _ _ (hpre (0 + j)), Nat.zero_add] at h1
    exact h1
  · intro vals w' hw hf
    have h1 := hfin vals w' hw (allFacts_of A 0 fun k hk => by
      rw [Nat.zero_add]
      exact hf k (by rw [hR, List.mem_range, ← hlen]; exact hk))
    rw [canonP_eq (ops := l.toArray) vals _ _ (hdst all (by simp))] at h1
    exact h1
end
end Go.Proofs.Ytgakdaohhbdjoaa
