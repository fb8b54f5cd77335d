/- The law for a counted iterator, where the loop variable has a cell of its own in each round. -/
import Derived.Test.YtieknecbheeekaaDoorR1
import Derived.RangeFuncNested
import Derived.RangeFuncBound
import Derived.RangeFuncCalls
import Derived.RangeFuncLeaves
import Derived.Shelf.Abstract
import Derived.OwnWalkIn
import Derived.TacticsInMore
import Derived.LoopNIn
import Derived.LoopIn
set_option linter.unusedVariables false
set_option linter.unusedSimpArgs false
namespace Go.Proofs.YtieknecbheeekaaDoor
open Go.RowKit Go.Maps Go.Shelf

/-- an iterator that hands out the rows 0 .. m-1 and writes nothing, as long as the blocks of T stay -/
def CountedQ (F : Fence) (n : Nat) (P : Program) (gf : Nat) (lb : Array Value) (row : Nat → Array Value) (m : Nat) (T : List Nat) (w0 : World) : Prop :=
  ∀ (l : Nat) (J : Nat → World → Prop) (Jx : World → Prop) (W : World), Touch [] w0 W →
    (∀ k A B, J k A → Touch [] A B → J k B) →
    (∀ k A, k < m → J k A → YieldAt F (n - 1) P l (row k) A fun e B => (∀ q ∈ T, B.heap[q]? = A.heap[q]?) ∧ ((e = .returned (.bool true) ∧ J (k + 1) B) ∨ (e = .returned (.bool false) ∧ Jx B))) →
    J 0 W → CallsIn F n P gf (#[.func (.yield l) #[] #[]] ++ lb) W fun e B => (∃ v, e = .returned v) ∧ (J m B ∨ Jx B)
theorem CountedQ.later {F : Fence} {n : Nat} {P : Program} {gf : Nat} {lb : Array Value} {row : Nat → Array Value} {m : Nat} {T : List Nat} {w0 w1 : World} (h : CountedQ F n P gf lb row m T w0) (ht : Touch [] w0 w1) : CountedQ F n P gf lb row m T w1 :=
  fun l J Jx W hW hJ hY h0 => h l J Jx W (ht.trans hW (by simp)) hJ hY h0
variable {F : Fence} {n : Nat} {P : Program}
theorem wpIn_rangeFunc_boxed {g : Operand} {ps : Array Tmp} {assign body : Code} {Q : Exit → Act → World → Prop} {a : Act} {w : World} (hro : F.round = none) (h1 : 1 ≤ n) {gf : Nat} {lb : Array Value} (hg : a.eval g = .func (.func gf) #[] lb) (hF : F.fn gf) (eg : ∀ args w, (callFunc gf args).run P w = .ok (.enter gf args) w)
    {row : Nat → Array Value} {m : Nat} {T : List Nat} (hps : ∀ k, (row k).size = ps.size) (hT : ∀ q ∈ T, q < w.heap.size) (hseq : CountedQ F (n - 1) P gf lb row m T w)
    (I : Nat → World → Prop) (Ix : Code → World → Prop) (hI : ∀ k A B, I k A → Touch [w.heap.size + 1, w.heap.size] A B → I k B) (hIx : ∀ c A B, Ix c A → Touch [w.heap.size + 1, w.heap.size] A B → Ix c B) (h0 : I 0 w) (a1 : Nat → Nat → Act) (obj : Nat → Obj)
    (hassign : ∀ (k : Nat) (A : World) (K : Act → World → Prop), k < m → K (a1 k A.heap.size) (A.alloc (obj k)) → assign.wpIn (F.inRound (w.heap.size + 1)) (n - 1 - 1) P (Exit.then K (fun _ _ _ => False)) { tmps := (ps.zip (row k)).foldl (fun t (p, v) => t.setIfInBounds p v) a.tmps, defers := [] } A)
    (hbody : ∀ (k b : Nat) (A : World), k < m → w.heap.size + 1 < b → A.heap[b]? = some (obj k) → I k A → body.wpIn (F.inRound (w.heap.size + 1)) (n - 1 - 1) P (roundDoes T (w.heap.size + 1) (I (k + 1)) Ix A) (a1 k b) A)
    (hdone : ∀ (B : World), I m B → B.heap[w.heap.size]? = some (.deferred (some [])) → Q .normal { a with defers := { target := .collected w.heap.size, args := #[] } :: a.defers } B)
    (hstop : ∀ (c : Code) (B : World), Ix c B → B.heap[w.heap.size]? = some (.deferred (some [])) → c.wpIn F n P Q { a with defers := { target := .collected w.heap.size, args := #[] } :: a.defers } B) :
    (Code.rangeFunc g ps assign body).wpIn F n P Q a w := by
  refine wpIn_rangeFunc fun fn hfn => ?_
  rw [hro]
  -- the record, in each of its states
  let R : LoopState → Option Code → Loop := fun st pe => { state := st, pending := pe, fn, tmps := a.tmps, params := ps, assign, body, defers := w.heap.size }
  obtain ⟨D, hD⟩ : ∃ D, D = w.heap.size := ⟨_, rfl⟩
  have hLD : w.heap.size + 1 = D + 1 := by rw [hD]
  have hT2 : ∀ q ∈ T, q ≠ D ∧ q ≠ D + 1 := fun q hq => by have := hT q hq; omega
  have hnew : ((w.alloc (.deferred (some []))).alloc (.loop (R .ready none))).heap[D]? = some (.deferred (some [])) := by rw [hD]; exact (Below.heap_alloc _ _ _ (by simp)).trans (World.alloc_heap_new w _)
  have hrec : ((w.alloc (.deferred (some []))).alloc (.loop (R .ready none))).heap[D + 1]? = some (.loop (R .ready none)) := by
    have := World.alloc_heap_new (w.alloc (.deferred (some []))) (.loop (R .ready none))
    rwa [World.size_alloc, ← hD] at this
  have hW : Touch [] w ((w.alloc (.deferred (some []))).alloc (.loop (R .ready none))) := (Touch.alloc [] w _).trans (Touch.alloc [] _ _) (fun i hi => (by cases hi))
  have hI' : ∀ k A B, I k A → Touch [D + 1, D] A B → I k B := by rw [hD]; exact hI
  have hIx' : ∀ c A B, Ix c A → Touch [D + 1, D] A B → Ix c B := by rw [hD]; exact hIx
  have hen : (Instr.enterLoop fn a.tmps ps assign body none).run P w = .ok (D + 1, [{ target := .collected D, args := #[] }]) ((w.alloc (.deferred (some []))).alloc (.loop (R .ready none))) := by
    have := run_enterLoop_outer (P := P) (w := w) fn a.tmps ps assign body
    rw [← hD] at this
    simpa [R, hD] using this
  generalize (w.alloc (.deferred (some []))).alloc (.loop (R .ready none)) = W1 at *
  refine ⟨D + 1, [{ target := .collected D, args := #[] }], W1, { target := .fn (.func gf) lb, args := #[.func (.yield (D + 1)) #[] #[]] }, W1, gf, #[.func (.yield (D + 1)) #[] #[]] ++ lb, W1, hen, ?_, ?_, ?_, fun _ => h1, ?_⟩
  · simp only [resolve, hg]
    simp [go_sem]
  · intro f' hf'
    simp [Target.leads] at hf'
    subst hf'
    exact hF
  · simp [invoke, go_sem, eg]
  · have hround := hseq (D + 1) (fun k A => I k A ∧ A.heap[D + 1]? = some (.loop (R .ready none)) ∧ A.heap[D]? = some (.deferred (some []))) (fun A => ∃ c, Ix c A ∧ A.heap[D + 1]? = some (.loop (R .done (some c))) ∧ A.heap[D]? = some (.deferred (some []))) _ hW ?_ ?_ ⟨hI' 0 _ _ h0 (hW.mono (fun i hi => (by cases hi))), hrec, hnew⟩
    · refine hround.mono ?_
      rintro e B ⟨⟨v, rfl⟩, (⟨hi, hl, hd⟩ | ⟨c, hi, hl, hd⟩)⟩
      · have ht : Touch [D + 1, D] B (B.putObj (D + 1) (.loop { R .ready none with state := .exhausted })) := Touch.putObj _ (by simp) _
        refine ⟨none, _, run_endLoop (P := P) hl (by simp [R]), ?_⟩
        have := hdone _ (hI' m _ _ hi ht) (by rw [← hD]; exact (World.putObj_heap_other (by omega)).trans hd)
        rw [← hD] at this
        exact this
      · have ht : Touch [D + 1, D] B (B.putObj (D + 1) (.loop { R .done (some c) with state := .exhausted })) := Touch.putObj _ (by simp) _
        refine ⟨some c, _, run_endLoop (P := P) hl (by simp [R]), ?_⟩
        have := hstop c _ (hIx' c _ _ hi ht) (by rw [← hD]; exact (World.putObj_heap_other (by omega)).trans hd)
        rw [← hD] at this
        exact this
    · rintro k A B ⟨hi, hl, hd⟩ ht
      refine ⟨hI' k _ _ hi (ht.mono (fun i hi => (by cases hi))), ?_, ?_⟩
      · exact (ht.block _ (Array.getElem?_eq_some_iff.1 hl).1 (by simp)).trans hl
      · exact (ht.block _ (Array.getElem?_eq_some_iff.1 hd).1 (by simp)).trans hd
    · rintro k A hk ⟨hi, hl, hd⟩
      have hlt : D + 1 < A.heap.size := (Array.getElem?_eq_some_iff.1 hl).1
      refine ⟨fn, _, assign, body, run_yield (P := P) hl (by simpa [R] using hps k), roundIn_of_wpIn hfn ?_⟩
      have hA := hassign k A (fun a₁ w₁ => ∃ w₂, (Instr.beginRound (D + 1)).run P w₁ = .ok () w₂ ∧ body.wpIn (F.inRound (D + 1)) (n - 1 - 1) P (roundPost P (D + 1) fun e B => (∀ q ∈ T, B.heap[q]? = A.heap[q]?) ∧ ((e = .returned (.bool true) ∧ (I (k + 1) B ∧ B.heap[D + 1]? = some (.loop (R .ready none)) ∧ B.heap[D]? = some (.deferred (some [])))) ∨ (e = .returned (.bool false) ∧ ∃ c, Ix c B ∧ B.heap[D + 1]? = some (.loop (R .done (some c))) ∧ B.heap[D]? = some (.deferred (some []))))) a₁ w₂) hk ?_
      · rw [hLD] at hA; exact hA
      · have hAT : ∀ q ∈ T, (A.alloc (obj k)).heap[q]? = A.heap[q]? := fun q hq => (Touch.alloc [] A _).block q (by have := hT q hq; omega) (by simp)
        have hl := ((Touch.alloc [] A (obj k)).block (D + 1) hlt (by simp)).trans hl
        have hd := ((Touch.alloc [] A (obj k)).block D (by omega) (by simp)).trans hd
        have hi := hI' k _ _ hi ((Touch.alloc [] A (obj k)).mono (fun i hi => (by cases hi)))
        have hob : (A.alloc (obj k)).heap[A.heap.size]? = some (obj k) := World.alloc_heap_new A _
        have hlt2 : D + 1 < (A.alloc (obj k)).heap.size := by rw [World.size_alloc]; omega
        generalize A.alloc (obj k) = A2 at *
        generalize A.heap.size = b at *
        refine ⟨_, run_beginRound (P := P) hl rfl, ?_⟩
        have ht : Touch [D + 1, D] A2 (A2.putObj (D + 1) (.loop { R .ready none with state := .busy })) := Touch.putObj _ (by simp) _
        have hb := hbody k b _ hk (by rw [← hD]; exact hlt) ((World.putObj_heap_other (by omega)).trans hob) (hI' k _ _ hi ht)
        rw [hLD] at hb
        have hbl : (A2.putObj (D + 1) (.loop { R .ready none with state := .busy })).heap[D + 1]? = some (.loop { R .ready none with state := .busy }) := World.putObj_heap_same hlt2
        have hbd : (A2.putObj (D + 1) (.loop { R .ready none with state := .busy })).heap[D]? = some (.deferred (some [])) := (World.putObj_heap_other (by omega)).trans hd
        have hbT : ∀ q ∈ T, (A2.putObj (D + 1) (.loop { R .ready none with state := .busy })).heap[q]? = A.heap[q]? := fun q hq => (World.putObj_heap_other (hT2 q hq).2).trans (hAT q hq)
        -- the end of a round
        have fin : ∀ (jump : Option Code) (C : World), (∀ q, q ∈ (D + 1) :: (D + 1 - 1) :: T → C.heap[q]? = (A2.putObj (D + 1) (.loop { R .ready none with state := .busy })).heap[q]?) →
            (Instr.endRound (D + 1) jump).run P C = .ok (.bool jump.isNone) (C.putObj (D + 1) (.loop (R (if jump.isNone then .ready else .done) jump))) ∧ Touch [D + 1, D] C (C.putObj (D + 1) (.loop (R (if jump.isNone then .ready else .done) jump))) ∧
            (C.putObj (D + 1) (.loop (R (if jump.isNone then .ready else .done) jump))).heap[D + 1]? = some (.loop (R (if jump.isNone then .ready else .done) jump)) ∧ (C.putObj (D + 1) (.loop (R (if jump.isNone then .ready else .done) jump))).heap[D]? = some (.deferred (some [])) ∧
            (∀ q ∈ T, (C.putObj (D + 1) (.loop (R (if jump.isNone then .ready else .done) jump))).heap[q]? = A.heap[q]?) := fun jump C hC => by
          have c1 : C.heap[D + 1]? = some (.loop { R .ready none with state := .busy }) := (hC _ (by simp)).trans hbl
          have c2 : C.heap[D]? = some (.deferred (some [])) := (hC D (by simp)).trans hbd
          refine ⟨run_endRound (P := P) jump c1, Touch.putObj _ (by simp) _, World.putObj_heap_same (Array.getElem?_eq_some_iff.1 c1).1, (World.putObj_heap_other (by omega)).trans c2, fun q hq => ?_⟩
          exact (World.putObj_heap_other (hT2 q hq).2).trans ((hC q (by simp [hq])).trans (hbT q hq))
        refine wpIn_mono hb ?_
        rintro e a3 C hp
        cases e with
        | normal =>
          obtain ⟨hC, hi3⟩ := hp
          obtain ⟨hr, ht3, hl3, hd3, hT3⟩ := fin none C hC
          exact ⟨_, _, hr, hT3, .inl ⟨rfl, hI' _ _ _ hi3 ht3, hl3, hd3⟩⟩
        | ret =>
          obtain ⟨hC, hi3⟩ := hp
          obtain ⟨hr, ht3, hl3, hd3, hT3⟩ := fin (some .ret) C hC
          exact ⟨_, _, hr, hT3, .inr ⟨rfl, .ret, hIx' _ _ _ hi3 ht3, hl3, hd3⟩⟩
        | exit i =>
          obtain ⟨hC, hi3⟩ := hp
          obtain ⟨hr, ht3, hl3, hd3, hT3⟩ := fin (some (.exit i)) C hC
          exact ⟨_, _, hr, hT3, .inr ⟨rfl, .exit i, hIx' _ _ _ hi3 ht3, hl3, hd3⟩⟩
        | goto t =>
          obtain ⟨hC, hi3⟩ := hp
          obtain ⟨hr, ht3, hl3, hd3, hT3⟩ := fin (some (.goto t)) C hC
          exact ⟨_, _, hr, hT3, .inr ⟨rfl, .goto t, hIx' _ _ _ hi3 ht3, hl3, hd3⟩⟩
        | panic ch => exact hp.elim
        | outgrown => exact hp.elim
#print axioms wpIn_rangeFunc_boxed
end Go.Proofs.YtieknecbheeekaaDoor
