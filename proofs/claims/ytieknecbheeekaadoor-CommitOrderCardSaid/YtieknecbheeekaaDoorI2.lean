/- A region that draws its order, in a fenced walk: a head that only reads, and a chain that waits for all of it. -/
import Derived.Test.YtieknecbheeekaaDoorI1
import Derived.OrdersIn
import Derived.StillTail
import Derived.StillTactics
set_option linter.unusedVariables false
set_option linter.unusedSimpArgs false
namespace Go.Proofs.YtieknecbheeekaaDoor
open Go.RowKit Go.Maps Go.Shelf
section
variable {P : Program} {ops : Array Oper} {md : Region.Mode} {w : World} {n0 : Nat}
theorem Oper.wpIn_of_still {o : Oper} {a : Act} {K : Act → Prop} {K' : Act → World → Prop} {Q' : Exit → Act → World → Prop} (h : ∀ a, K a → K' a w) (hh : o.still P a w K) : o.wpIn Fence.wide n0 P a w K' Q' := by
  unfold Oper.still at hh
  unfold Oper.wpIn
  refine ⟨fun _ _ => trivial, ?_⟩
  rw [show Fence.wide.round = none from rfl, Oper.semAt_none]
  generalize (execOp a.eval o).run P w = r at *
  cases r with
  | ok n w' =>
    cases n <;> simp only [Oper.stillUpon] at hh <;> simp only [Oper.uponIn]
    case enter f args =>
      obtain ⟨rfl, v, hc, hn⟩ := hh
      exact ⟨fun h => (by simp [Fence.wide] at h), callsIn_wide.2 (hc.mono fun e w'' ⟨he, hw⟩ => by subst he; subst hw; exact h _ hn)⟩
    all_goals (obtain ⟨rfl, h2⟩ := hh; exact h _ h2)
  | halt x w' => simp only [Oper.stillUpon] at hh
theorem wpOpIn_of_stOp {i : Nat} {a : Act} {K : Act → Prop} {K' : Act → World → Prop} {Q' : Exit → Act → World → Prop} (h : ∀ a, K a → K' a w) (hh : stOp P ops w i K a) : wpOpIn Fence.wide n0 P ops Q' i K' a w := by
  unfold stOp at hh
  unfold wpOpIn
  split
  · rename_i ho
    simp only [ho] at hh
    exact h _ hh
  · rename_i o ho
    simp only [ho] at hh
    split
    · rename_i hw; simp only [hw, if_true] at hh; exact Oper.wpIn_of_still h hh
    · rename_i hw; simp only [hw] at hh; exact ⟨fun _ _ => trivial, h _ hh⟩
theorem wpAnyIn_of_head {n g : Nat} {L : Array Bool → Act → Prop} {Q' : Exit → Act → World → Prop} (hL : ∀ listed a, L listed a → wpAnyIn Fence.wide n0 P md ops Q' g listed a w) :
    ∀ (f : Nat) (listed : Array Bool) (a : Act), wpAnyL P md ops w n L f listed a → wpAnyIn Fence.wide n0 P md ops Q' (f + g) listed a w
  | 0, listed, a, h => by rw [Nat.zero_add]; exact hL _ _ h
  | f + 1, listed, a, h => by
    rw [show f + 1 + g = (f + g) + 1 by omega]
    exact ⟨fun h0 => absurd h0 h.1, fun i hi => wpOpIn_of_stOp (fun a' h' => wpAnyIn_of_head hL f _ a' h') (h.2 i hi).2⟩
theorem wpAnyIn_of_seq {F : Fence} {Q' : Exit → Act → World → Prop} : ∀ (l : List Oper) (k : Nat) (listed : Array Bool) (a : Act) (w : World), (∀ j, l[j]? = ops[k + j]?) →
    Region.seqB md ops l.length k listed = true → wpListIn F n0 P ops Q' l a w → wpAnyIn F n0 P md ops Q' l.length listed a w
  | [], _, _, _, _, _, hB, h => ⟨by simpa [Region.seqB] using hB, h⟩
  | o :: l, k, listed, a, w, hl, hB, h => by
    have h0 : ops[k]? = some o := by simpa using (hl 0).symm
    simp only [List.length_cons, Region.seqB, Bool.and_eq_true, decide_eq_true_eq] at hB
    refine ⟨fun h1 => (by rw [hB.1] at h1; cases h1), fun i hi => ?_⟩
    rw [hB.1] at hi
    have hik : i = k := by simpa using hi
    subst hik
    have hw : wpOpIn F n0 P ops Q' i (wpListIn F n0 P ops Q' l) a w := by unfold wpOpIn; simp only [h0]; exact h
    exact wpOpIn_mono (fun a' w' h' => wpAnyIn_of_seq l (i + 1) _ a' w' (fun j => by have := hl (j + 1); simpa [Nat.add_assoc, Nat.add_comm 1 j] using this) hB.2 h') hw
theorem wpIn_region_still_tail {id : Nat} {Q : Exit → Act → World → Prop} {a : Act} {w : World} {l : List Oper} (n : Nat) (hm : P.follows .mixedOrders = true) (hB : Region.lexTailB .any l.toArray n = true)
    (h : wpStill P l.toArray { w with drawn := w.drawn + 1 } (fun a' => wpListIn Fence.wide n0 P l.toArray Q (l.drop n) a' { w with drawn := w.drawn + 1 }) (l.take n) a) : (Code.region id l.toArray true).wpIn Fence.wide n0 P Q a w := by
  simp only [Region.lexTailB, Bool.and_eq_true, decide_eq_true_eq] at hB
  obtain ⟨⟨⟨⟨hsel, hn⟩, hs⟩, hc⟩, hlex⟩ := hB
  have hn' : n < l.length := by simpa using hn
  have htl : (l.take n).length = n := by simp; omega
  have hdl : (l.drop n).length = l.toArray.size - n := by simp
  have inv0 : HeadInv .any l.toArray n (Array.replicate l.toArray.size false) :=
    ⟨by simp, fun j oj _ hl => (by rw [getD_replicate_false] at hl; cases hl), fun t _ ht => getD_in (by simpa using ht) (getD_replicate_false _ _)⟩
  have H := wpAnyL_lex (md := .any) (g := l.toArray.size - n) hsel hs hc hn (l.take n) 0 _ a (fun j hj => by
    have hj' : j < n := by rw [htl] at hj; exact hj
    simp [hj']) (by simpa using htl) inv0 (by rw [htl]; exact hlex) h
  refine wpIn_region_any hm ?_
  have := wpAnyIn_of_head (n0 := n0) (Q' := Q) (g := l.toArray.size - n) (fun listed a' hL => by
    have := wpAnyIn_of_seq (md := .any) (Q' := Q) (l.drop n) n listed a' { w with drawn := w.drawn + 1 } (fun j => by simp [List.getElem?_drop]) (by rw [hdl]; exact hL.1) hL.2
    rwa [hdl] at this) _ _ _ H
  rw [htl, show n + (l.toArray.size - n) = l.toArray.size by omega] at this
  exact this
/-- an operation that gives a value and leaves the world, in a quiet head -/
theorem wpStill_gv {Q : Act → Prop} {a : Act} {o : Oper} {rest : List Oper} {v : Value} (hg : o.guard = none) (hr : (execOp a.eval o).run P w = .ok (.value v) w) (h : wpStill P ops w Q rest (a.put o.dst v)) : wpStill P ops w Q (o :: rest) a := by
  unfold wpStill
  simp only [Region.wanted, hg, if_true]
  unfold Oper.still
  rw [hr]
  exact ⟨rfl, h⟩
end
#print axioms wpIn_region_still_tail
section
variable {P : Program} {ops : Array Oper} {n0 : Nat}
/-- a law of the plain walk on one operation, in a fenced walk -/
theorem wpListIn_via {o : Oper} {a a1 : Act} {w w1 : World} {Q : Exit → Act → World → Prop} {rest : List Oper} (hlaw : ∀ Q : Exit → Act → World → Prop, wpList P ops Q [] a1 w1 → wpList P ops Q [o] a w) (h : wpListIn Fence.wide n0 P ops Q rest a1 w1) : wpListIn Fence.wide n0 P ops Q (o :: rest) a w := by
  obtain ⟨Q0, hQ0⟩ : ∃ Q0 : Exit → Act → World → Prop, Q0 = fun e a' w' => match e with | .normal => wpListIn Fence.wide n0 P ops Q rest a' w' | .outgrown => False | e => Q e a' w' := ⟨_, rfl⟩
  have q1 : ∀ a' w', Q0 .normal a' w' → wpListIn Fence.wide n0 P ops Q rest a' w' := fun a' w' h => by rw [hQ0] at h; exact h
  have q2 : ∀ a' w', ¬ Q0 .outgrown a' w' := fun a' w' h => by rw [hQ0] at h; exact h
  have q3 : ∀ c a' w', Q0 (.panic c) a' w' → Q (.panic c) a' w' := fun c a' w' h => by rw [hQ0] at h; exact h
  have h1 := hlaw Q0 (by rw [hQ0]; exact h)
  clear hQ0 hlaw h
  unfold wpList at h1
  unfold wpListIn
  split at h1
  · rename_i hw
    rw [if_pos hw]
    rcases h1 with h1 | ⟨_, _, _, h1⟩
    · unfold Oper.wp at h1
      unfold Oper.wpIn
      refine ⟨fun _ _ => trivial, ?_⟩
      rw [show Fence.wide.round = none from rfl, Oper.semAt_none]
      have hd : Fence.wide.depth.isSome = true → 1 ≤ n0 := fun h => (by simp [Fence.wide] at h)
      generalize (execOp a.eval o).run P w = r at *
      cases r with
      | ok x w' =>
        cases x <;> simp only [Oper.upon] at h1 <;> simp only [Oper.uponIn]
        case value v => exact q1 _ _ h1
        case skip => exact q1 _ _ h1
        case defer d => exact q1 _ _ h1
        case enter f args =>
          refine ⟨hd, callsIn_wide.2 (Calls.mono h1 fun e w'' he => ?_)⟩
          cases e with
          | returned v => exact q1 _ _ he
          | panicked c => exact q3 _ _ _ he
          | outgrown => exact absurd he.choose_spec.choose_spec (q2 _ _)
        case row row args => exact ⟨hd, fun c cs _ => let ⟨v, w', r, s⟩ := h1 c cs; ⟨v, w', q1 _ _ r, stepsIn_wide.2 s⟩⟩
      | halt x w' =>
        cases x <;> simp only [Oper.upon] at h1 <;> simp only [Oper.uponIn]
        case panic v => exact q3 _ _ _ h1
    · exact absurd h1 (q2 _ _)
  · rename_i hw
    rw [if_neg hw]
    exact ⟨fun _ _ => trivial, q1 _ _ h1⟩
#print axioms wpListIn_via
end
end Go.Proofs.YtieknecbheeekaaDoor
