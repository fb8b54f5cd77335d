/- append of whole rows. -/
import Derived.Test.YtokehhegomiciaaMaps
import Derived.Laws.AppendOwnNone
set_option linter.unusedVariables false
set_option linter.unusedSimpArgs false
namespace Go.Proofs.Ytokehhegomiciaa
open Go.RowKit

/-- what is appended: elements that can be read there -/
def Src (w : World) (sz : Nat) (v : Value) (l : List (List Value)) : Prop := (∀ c ∈ l, c.length = sz ∧ ∀ u ∈ c, u.oneCell' = true) ∧ ((v = .slice none 0 0 ∧ l = []) ∨ ∃ ad c, v = .slice (some ad) l.length c ∧ ∀ j u, l.flatten[j]? = some u → w.cell? (ad.add j) = some u)
theorem Row.src {w : World} {e sz : Nat} {v : Value} {l : List (List Value)} (h : Row w e sz v l) (h1 : ∀ c ∈ l, ∀ u ∈ c, u.oneCell' = true) : Src w sz v l := by
  refine ⟨fun c hc => ⟨h.1 c hc, h1 c hc⟩, ?_⟩
  rcases h.2.2 with ⟨hv, hl⟩ | ⟨g, cap, cur, hv, _⟩
  · exact .inl ⟨hv, List.eq_nil_of_length_eq_zero hl⟩
  · exact .inr ⟨⟨g, 0, none⟩, cap, hv, fun j u hj => h.2.cells (g := g) (by rw [hv]; rfl) j u hj⟩
theorem Src.grow {w w' : World} {sz : Nat} {v : Value} {l : List (List Value)} (h : Src w sz v l) (hg : Grow w w') : Src w' sz v l := by
  refine ⟨h.1, ?_⟩
  rcases h.2 with h2 | ⟨ad, c, hv, hc⟩
  · exact .inl h2
  · refine .inr ⟨ad, c, hv, fun j u hj => ?_⟩
    have h3 := hc j u hj
    have h4 := World.block_lt_of_cell? w _ h3
    exact (Below.cell hg h4).trans h3
/-- append of a row, in a walk -/
theorem wpList_append_rows {P : Program} {ops : Array Oper} {rest : List Oper} {o : Oper} {a : Act} {w : World} {Q : Exit → Act → World → Prop} (hgd : o.guard = none) (s x : Operand) (t : TypeId)
    (ho : o.op = .call { callee := .builtin .append, args := #[s, x], argTypes := #[t, t] })
    (e : TypeId) (i : TypeInfo) (z : Value) (size bytes : Nat) (ht : P.underlying t = some (.slice e)) (hi : P.info? e = some i) (hz : i.zero = some z) (hsize : i.size = size) (hby : i.bytes = bytes) (hzs : z.cells.size = size) (hsz : 0 < size)
    (v vs : Value) (l l' : List (List Value)) (hs : a.eval s = v) (hrow : Row w e size v l) (hx : a.eval x = vs) (hsrc : Src w size vs l')
    (hlen : l.length + l'.length ≤ 1000000) (hbytes : bytes ≤ 1000000) (hT : ∀ v' w', AppAtE e size w v (l ++ l') v' w' → Touch (ownL v) w w' → wpList P ops Q rest (a.put o.dst v') w') : wpList P ops Q (o :: rest) a w := by
  rcases hsrc.2 with ⟨rfl, rfl⟩ | ⟨ad, c, rfl, hcells⟩
  · refine wpList_append_own_none hgd s x t ho 0 e i size ht hi v l.length l.flatten hs hrow.2 hx (hT v w ⟨by rw [List.append_nil]; exact hrow, .inl rfl⟩ (Touch.refl _ _))
  · refine wpList_plain hgd fun K' hK' => ?_
    have hl' : l'.flatten.length = l'.length * size := flatten_length size l' (fun c hc => (hsrc.1 c hc).1)
    obtain ⟨v', w', hr, h2, h3, h4, h5⟩ := run_append_own_at (P := P) w 0 t o.type e i z size bytes ht hi hz hsize hby hzs hsz v l.length l.flatten hrow.2 ad l'.length c l'.flatten hl' hcells (fun u hu => by obtain ⟨d, hd, hud⟩ := List.mem_flatten.1 hu; exact (hsrc.1 d hd).2 u hud) (by unfold maxLen; omega)
      (Nat.le_trans (Nat.mul_le_mul hlen hbytes) (by omega)) (Nat.zero_le _)
    unfold Oper.wp
    have hrun : (execOp a.eval o).run P w = .ok (.value v') w' := by
      unfold execOp
      simp only [ho, resolve, invoke, builtin, Sem.run_bind, Sem.run_pure, Result.andThen_ok, List.map_toArray, List.map_cons, List.map_nil, hs, hx, hr]
    rw [hrun]
    refine hK' _ _ (hT v' w' ⟨⟨?_, ?_⟩, ?_⟩ (Touch.grown h3 (fun k e => ownL_mem.2 e)))
    · intro d hd
      rcases List.mem_append.1 hd with h | h
      · exact hrow.1 d h
      · exact (hsrc.1 d h).1
    · rw [List.flatten_append, List.length_append]
      exact h2
    · rcases h5 with h | h
      · exact .inl h
      · exact .inr ⟨_, h, Nat.le_refl _⟩
#print axioms wpList_append_rows
end Go.Proofs.Ytokehhegomiciaa
