/- Rows in a quiet head; an action that is built. -/
import Derived.Test.YtieknecbheeekaaDoorI2
set_option linter.unusedVariables false
set_option linter.unusedSimpArgs false
namespace Go.Proofs.YtieknecbheeekaaDoor
open Go.RowKit Go.Maps Go.Shelf
theorem run_load_mid {P : Program} {o : Oper} {a : Act} {w : World} (ty : TypeId) (x : Operand) (ho : o.op = .load ty x) (b off : Nat) (hx : a.eval x = .pointer (some ⟨b, off, none⟩)) (cs : List Value) (d : TypeDesc) (hc : w.rangeAt b off cs)
    (hu : P.underlying ty = some d) (hd : d.isRow = true) (hi : (P.info? ty).map (·.size) = some cs.length) : (execOp a.eval o).run P w = .ok (.value (.agg cs.toArray)) w := by
  unfold execOp
  simp only [ho, hx, Instr.loadAt, Instr.sureAddr, Sem.run_bind, Sem.run_pure, Result.andThen_ok, run_loadVar_mid w b off ty cs d hc hu hd hi]
theorem run_build_v {P : Program} {o : Oper} {a : Act} {w : World} (t : TypeId) (parts : Array (Nat × Operand)) (ho : o.op = .build t parts) (cells : Array Value) (hf : P.built t (parts.map fun (i, x) => (i, a.eval x)).toList = some cells) : (execOp a.eval o).run P w = .ok (.value (.agg cells)) w := by
  unfold execOp
  simp only [ho, Sem.run_bind, run_build w t _ cells hf, Result.andThen_ok, Sem.run_pure]
theorem wpList_build_v {P : Program} {ops : Array Oper} {rest : List Oper} {o : Oper} {a : Act} {w : World} {Q : Exit → Act → World → Prop} (hg : o.guard = none) (t : TypeId) (parts : Array (Nat × Operand)) (ho : o.op = .build t parts) (cells : Array Value)
    (hf : P.built t (parts.map fun (i, x) => (i, a.eval x)).toList = some cells) (h : wpList P ops Q rest (a.put o.dst (.agg cells)) w) : wpList P ops Q (o :: rest) a w := by
  refine wpList_build hg t parts ho (by rw [hf]; rfl) ?_
  rw [hf]
  exact h
theorem setMany_cons (x : Value) : ∀ (vs xs : List Value) (o : Nat), setMany (x :: xs) (o + 1) vs = x :: setMany xs o vs := by
  intro vs
  induction vs with
  | nil => intro xs o; rfl
  | cons v r ih => intro xs o; rw [setMany, setMany, List.set_cons_succ, ih]
theorem setMany_fore : ∀ (vs a b : List Value), a.length = vs.length → setMany (a ++ b) 0 vs = vs ++ b := by
  intro vs
  induction vs with
  | nil => intro a b h; have := List.eq_nil_of_length_eq_zero h; subst this; rfl
  | cons v r ih =>
    intro a b h
    cases a with
    | nil => cases h
    | cons x a => rw [setMany, List.cons_append, List.set_cons_zero, setMany_cons, ih a b (by simpa using h), List.cons_append]
def offA : Nat → Option (Nat × Nat) := fun i => ([(0, 1), (1, 1), (2, 256)] : List (Nat × Nat)).toArray[i]?
theorem builtA (parts : List (Nat × Value)) : Tryd.prog.built 36 parts = Instr.fill offA (acell (0, 0, zeroB)).toArray parts := by kernel_rfl
theorem acell_len {x : Nat × Int × Blk} (h : x.2.2.length = 256) : (acell x).length = 258 := by unfold acell; simp [bc_length, h]
theorem built_write (b : Int) (x : Blk) (hx : x.length = 256) : Tryd.prog.built 36 [(0, .int .u8 2), (1, .int .i64 b), (2, .agg (bc x).toArray)] = some (acell (2, b, x)).toArray := by
  have hl : (bc x).length = 256 := by rw [bc_length]; exact hx
  have hz : (bc zeroB).length = 256 := by rw [bc_length]; exact zeroB_len
  have hzz : (acell (0, 0, zeroB)).length = 258 := acell_len zeroB_len
  rw [builtA, fill_cons (off := 0) (size := 1) rfl rfl (by simp [hzz])]
  rw [fill_cons (off := 1) (size := 1) rfl rfl (by rw [List.size_toArray, setMany_length]; simp only [hzz]; omega)]
  rw [fill_cons (off := 2) (size := 256) rfl (by show (bc x).toArray.size = 256; rw [List.size_toArray, hl]) (by rw [List.size_toArray, setMany_length]; simp only [setMany_length, hzz]; omega)]
  rw [Instr.fill]
  congr 2
  show setMany (setMany (setMany (acell (0, 0, zeroB)) 0 [.int .u8 2]) 1 [.int .i64 b]) 2 (bc x) = acell (2, b, x)
  unfold acell
  simp only
  generalize bc zeroB = z at *
  generalize bc x = y at *
  simp only [setMany, List.set_cons_zero, List.set_cons_succ]
  rw [setMany_cons, setMany_cons]
  have := setMany_fore y z [] (by omega)
  rw [List.append_nil, List.append_nil] at this
  rw [this]
  rfl
#print axioms built_write
end Go.Proofs.YtieknecbheeekaaDoor
