/- What is told of a block, plainly: the newest copy that is left, as the transactions that were taken tell it. -/
import Derived.Test.YtokehhegomiciaaH21
set_option linter.unusedVariables false
set_option linter.unusedSimpArgs false
namespace Go.Proofs.Ytokehhegomiciaa
open Go.RowKit Go.Maps

theorem findC_forget (l : List Cp) (a b : Int) : findC (forgetL a l) b = if b = a then none else findC l b := by
  induction l with
  | nil => simp [findC, forgetL]
  | cons c l ih =>
    unfold findC forgetL at ih ⊢
    by_cases hc : c.1 = a
    · rw [List.filter_cons_of_neg (by simpa using hc), ih]
      by_cases hb : b = a
      · rw [if_pos hb, if_pos hb]
      · rw [if_neg hb, if_neg hb, List.find?_cons_of_neg (by simp; omega)]
    · rw [List.filter_cons_of_pos (by simpa using hc)]
      by_cases hb : c.1 = b
      · rw [List.find?_cons_of_pos (by simpa using hb), List.find?_cons_of_pos (by simpa using hb), if_neg (by omega)]
      · rw [List.find?_cons_of_neg (by simpa using hb), List.find?_cons_of_neg (by simpa using hb), ih]
theorem getC_forget (l : List CT) (a b : Int) : getC (l.map (CT.forget a)) b = if b = a then none else getC l b := by
  induction l with
  | nil => simp [getC]
  | cons t l ih =>
    rw [List.map_cons, getC, getC, ih]
    show (if b = a then none else getC l b).or (findC (forgetL a t.left) b) = _
    rw [findC_forget]
    split <;> simp
theorem getC_append (l : List CT) (t : CT) (b : Int) : getC (l ++ [t]) b = (findC t.left b).or (getC l b) := by
  induction l with
  | nil => simp [getC]
  | cons u l ih => rw [List.cons_append, getC, ih, getC, Option.or_assoc]
theorem getC_forgets (rs : List Int) : ∀ (s : CS) (b : Int), getC (rs.foldl (fun (s : CS) b => s.forget b) s).all b = if b ∈ rs then none else getC s.all b := by
  induction rs with
  | nil => intro s b; simp
  | cons a rs ih =>
    intro s b
    rw [List.foldl_cons, ih]
    show (if b ∈ rs then none else getC (s.all.map (CT.forget a)) b) = _
    rw [getC_forget]
    by_cases h1 : b ∈ rs
    · rw [if_pos h1, if_pos (List.mem_cons_of_mem _ h1)]
    · by_cases h2 : b = a
      · rw [if_neg h1, if_pos h2, if_pos (h2 ▸ List.mem_cons_self ..)]
      · rw [if_neg h1, if_neg h2, if_neg (by simp [h1, h2])]
theorem getC_addC (s : CS) (seq : Nat) (cs : List Cp) (rs : List Int) (start count : Int) (b : Int) : getC (addC s seq cs rs start count).all b = if b ∈ rs then none else (findC cs b).or (getC s.all b) := by
  unfold addC
  show getC (rs.foldl (fun (s : CS) b => s.forget b) _).all b = _
  rw [getC_forgets, getC_append]
theorem inC_forget (l : List CT) (a b : Int) : inC (l.map (CT.forget a)) b = inC l b := by unfold inC; rw [List.any_map]; rfl
theorem inC_forgets (rs : List Int) : ∀ (s : CS) (b : Int), inC (rs.foldl (fun (s : CS) b => s.forget b) s).all b = inC s.all b := by
  induction rs with
  | nil => intro s b; rfl
  | cons a rs ih =>
    intro s b
    rw [List.foldl_cons, ih]
    exact inC_forget _ _ _
theorem find_in (l : List Cp) (b : Int) : decide (b ∈ l.map (·.1)) = (findC l b).isSome := by rw [← mem_pr, keys_pr]
theorem inC_addC (s : CS) (seq : Nat) (cs : List Cp) (rs : List Int) (start count : Int) (b : Int) : inC (addC s seq cs rs start count).all b = (inC s.all b || (findC cs b).isSome) := by
  unfold addC
  show inC (rs.foldl (fun (s : CS) b => s.forget b) _).all b = _
  rw [inC_forgets]
  show inC (s.all ++ [_]) b = _
  rw [← find_in]
  unfold inC
  rw [List.any_append]
  simp
theorem leftP_get (l : List CT) (b : Int) : leftP l b = (getC l b).isSome := by
  induction l with
  | nil => rfl
  | cons t l ih =>
    rw [getC, Option.isSome_or, ← ih]
    unfold leftP
    rw [List.any_cons, Bool.or_comm]
/-- what has been gathered of a block -/
structure NW where
  want : Blk
  is : Bool
  inn : Bool
def stepN (b : Int) (p : NW) (x : AV) : NW :=
  ⟨if b ∈ x.rs then zeroB else if (findC x.cs b).isSome then dataC (findC x.cs b) else p.want, if b ∈ x.rs then false else if (findC x.cs b).isSome then true else p.is, p.inn || (findC x.cs b).isSome⟩
def runN (b : Int) (l : List AV) : NW := l.foldl (stepN b) ⟨zeroB, false, false⟩
def ofN (s : CS) (b : Int) : NW := ⟨dataC (getC s.all b), (getC s.all b).isSome, inC s.all b⟩
theorem stepN_add (b : Int) (s : CS) (x : AV) : stepN b (ofN s b) x = ofN (addC s x.seq x.cs x.rs x.start x.count) b := by
  unfold stepN ofN
  rw [getC_addC, inC_addC]
  by_cases h : b ∈ x.rs
  · simp only [if_pos h]; rfl
  · simp only [if_neg h]
    cases e : findC x.cs b <;> simp
theorem runN_take {b : Int} {l : List AV} {k : Nat} {x : AV} (h : l[k]? = some x) : runN b (l.take (k + 1)) = stepN b (runN b (l.take k)) x := by
  unfold runN; rw [List.take_add_one, h, List.foldl_append]; rfl
theorem runN_run (g : G4) (l : List AV) (b : Int) : runN b (runA g l).2 = ofN (runA g l).1 b := by
  suffices ∀ (l : List AV) (p : CS × List AV), runN b p.2 = ofN p.1 b → runN b (l.foldl (stepA g) p).2 = ofN (l.foldl (stepA g) p).1 b from this l _ rfl
  intro l
  induction l with
  | nil => intro p h; exact h
  | cons x l ih =>
    intro p h
    rw [List.foldl_cons]
    refine ih _ ?_
    unfold stepA
    split
    · show runN b (p.2 ++ [x]) = _
      unfold runN
      rw [List.foldl_append]
      show stepN b (runN b p.2) x = _
      rw [h, stepN_add]
    · exact h
#print axioms runN_run
end Go.Proofs.Ytokehhegomiciaa
