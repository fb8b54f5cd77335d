/- My region rule for plain regions: the order of the text is one of the orders; guarded operations are cheap by it. -/
import Derived.Test.YtieknecbheeekaaDoorRegion
namespace Go.Proofs.YtieknecbheeekaaDoor
open Go
section
variable {P : Program} {Q : Exit → Act → World → Prop}
theorem wp_region_facts_plain {id : Nat} {l : List Oper} {a0 : Act} {w : World} (hlin : Region.linearise.go .any l.toArray l.toArray.size 0 (Array.replicate l.toArray.size false) [] = List.range l.toArray.size) (pre : List (List (Nat × Option Tmp))) (all : List (Nat × Option Tmp))
    (hB : preB .any l.toArray (Array.replicate l.length false) (all.map (·.1)) (fun j => (pre.getD j []).map (·.1)) = true)
    (hP : ((all :: pre).all fun q => q.all fun p => dstAt l.toArray p.1 == p.2) = true) (hR : all.map (·.1) = List.range l.length)
    (R : World → World → Prop) (hrefl : ∀ w, R w w) (htrans : ∀ a b c, R a b → R b c → R a c) (A : List (Value → World → Prop)) (hlen : A.length = l.length) (hA : AllStab R A)
    (hop : OpsOK P l.toArray a0 w R (fun j => A.getD j fun _ _ => True) (fun j => pre.getD j []) 0 l)
    (hfin : ∀ (vals : Nat → Value) (w' : World), R w w' → AllFacts vals w' 0 A → Q .normal (canonP vals a0 all) w') : (Code.region id l.toArray false).wp P Q a0 w := by
  have hdst : ∀ q ∈ all :: pre, (q.all fun p => dstAt l.toArray p.1 == p.2) = true := fun q hq => List.all_eq_true.1 hP q hq
  have hpre : ∀ j, ((pre.getD j []).all fun p => dstAt l.toArray p.1 == p.2) = true := fun j => by
    rw [List.getD_eq_getElem?_getD]
    cases h : pre[j]? with
    | none => rfl
    | some q => exact hdst q (List.mem_cons_of_mem _ (List.mem_of_getElem? h))
  suffices hgo : wpAny P Region.Mode.any l.toArray Q l.toArray.size (Array.replicate l.toArray.size false) a0 w by
    refine wp_region ?_
    rw [← hlin]
    exact wpAny_sound l.toArray.size 0 _ a0 w hgo
  refine wpAny_facts (Array.replicate l.length false) (all.map (·.1)) (fun j => (pre.getD j []).map (·.1)) hB a0 w R hrefl (fun a b h h' => htrans _ _ _ h h') (fun j => A.getD j fun _ _ => True)
    (fun j v w w' h hX => AllStab.at A j hA v w w' h hX) ?_ ?_ _ (by rw [hR]; simp)
  · intro j _ o ho vals w' hw hf
    have h1 := hop.at l 0 j o (by simpa using ho) vals w' hw (factsP_of _ (by simpa using hf))
    rw [canonP_eq (ops := l.toArray) vals _ _ (hpre (0 + j)), Nat.zero_add] at h1
    exact h1
  · intro vals w' hw hf
    have h1 := hfin vals w' hw (allFacts_of A 0 fun k hk => by
      rw [Nat.zero_add]
      exact hf k (by rw [hR, List.mem_range, ← hlen]; exact hk))
    rw [canonP_eq (ops := l.toArray) vals _ _ (hdst all (by simp))] at h1
    exact h1
#print axioms wp_region_facts_plain
end
end Go.Proofs.YtieknecbheeekaaDoor
