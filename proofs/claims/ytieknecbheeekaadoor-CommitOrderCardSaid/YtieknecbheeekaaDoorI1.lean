/- Loads and stores of rows in a fenced walk. -/
import Derived.Test.YtieknecbheeekaaDoorA2
import Derived.TacticsIn
set_option linter.unusedVariables false
set_option linter.unusedSimpArgs false
namespace Go.Proofs.YtieknecbheeekaaDoor
open Go.RowKit Go.Maps Go.Shelf
theorem wpListIn_gv {F : Fence} {n : Nat} {P : Program} {ops : Array Oper} {Q : Exit → Act → World → Prop} {rest : List Oper} {o : Oper} {a : Act} {w : World} {T : Value → World → Prop} (hg : o.guard = none) (hro : F.round = none) (hab : o.about P w a.eval = none)
    (hne : ∀ f args w', (execOp a.eval o).run P w ≠ .ok (.enter f args) w') (h : Oper.gives P o a w T) (hK : ∀ v w', T v w' → wpListIn F n P ops Q rest (a.put o.dst v) w') : wpListIn F n P ops Q (o :: rest) a w := by
  refine wpListIn_plain hg fun K hK' => ⟨fun f hf => (by rw [hab] at hf; cases hf), ?_⟩
  rw [hro, Oper.semAt_none]
  unfold Oper.gives at h
  generalize (execOp a.eval o).run P w = r at *
  cases r with
  | ok x w' =>
    cases x <;> simp only [Oper.uponIn] at h ⊢
    case value v => exact hK' _ _ (hK _ _ h)
    case skip => exact hK' _ _ (hK _ _ h)
    case enter f args => exact absurd rfl (hne f args w')
    all_goals exact h.elim
  | halt x w' => exact h.elim
#print axioms wpListIn_gv
theorem BSee.at_ {w : World} {a : Option Addr} {n cap : Nat} {bs : List Blk} (h : BSee w (.slice a n cap) bs) {k : Nat} {x : Blk} (hk : bs[k]? = some x) : ∃ g o, a = some ⟨g, o, none⟩ ∧ g < w.heap.size ∧ w.rangeAt g (o + k * 256) (bc x) ∧ x.length = 256 := by
  obtain ⟨⟨a', cap', hv, hi⟩, hl⟩ := h
  cases hv
  obtain ⟨g, o, ha, h1, h2⟩ := hi k (bc x) (by rw [List.getElem?_map, hk]; rfl)
  exact ⟨g, o, ha, h1, h2, hl x (List.mem_of_getElem? hk)⟩
end Go.Proofs.YtieknecbheeekaaDoor
