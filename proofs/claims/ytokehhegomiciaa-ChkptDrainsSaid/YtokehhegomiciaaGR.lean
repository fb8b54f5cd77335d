/- Rows that begin anywhere in a block: what a slice of a slice is; append onto one. -/
import Derived.Test.YtokehhegomiciaaEq
import Derived.ArgAppend
set_option linter.unusedVariables false
set_option linter.unusedSimpArgs false
namespace Go.Proofs.Ytokehhegomiciaa
open Go.RowKit Go.Maps

def KindAt (w : World) (g : Nat) (e : TypeId) : Prop := ∃ C, w.heap[g]? = some (.cells C e (0, 0))
/-- a slice whose elements are these, each of sz cells; it may begin anywhere in its block, and what is behind it up to its capacity may be written -/
def GRow (w : World) (e sz : Nat) (v : Value) (l : List (List Value)) : Prop :=
  (∀ c ∈ l, c.length = sz) ∧ ((v = .slice none 0 0 ∧ l = []) ∨ ∃ g o cap, v = .slice (some ⟨g, o, none⟩) l.length cap ∧ l.length ≤ cap ∧ cap ≤ maxLen ∧ KindAt w g e ∧ w.rangeAt g o l.flatten ∧ w.there g o (cap * sz))
theorem KindAt.lt {w : World} {g : Nat} {e : TypeId} (h : KindAt w g e) : g < w.heap.size := by obtain ⟨C, h⟩ := h; exact (Array.getElem?_eq_some_iff.1 h).1
theorem KindAt.kept {w w' : World} {g : Nat} {e : TypeId} (h : KindAt w g e) {T : List Nat} (ht : Touch T w w') (hn : g ∉ T) : KindAt w' g e := by
  have hl := h.lt
  obtain ⟨C, h⟩ := h
  exact ⟨C, (ht.block g hl hn).trans h⟩
theorem KindAt.setCell {w : World} {g : Nat} {e : TypeId} (h : KindAt w g e) (b o : Nat) (v : Value) : KindAt (w.setCell ⟨b, o, none⟩ v) g e := by
  obtain ⟨C, h⟩ := h
  by_cases hg : b = g
  · subst hg
    exact ⟨_, heap_set h o v⟩
  · exact ⟨C, (Below.heap_setCell w ⟨b, o, none⟩ v g (fun e => hg e.symm)).trans h⟩
theorem KindAt.setCells {g : Nat} {e : TypeId} : ∀ (vs : List Value) (b o : Nat) (w : World), KindAt w g e → KindAt (w.setCells b o vs) g e := by
  intro vs
  induction vs with
  | nil => intro b o w h; exact h
  | cons v r ih => intro b o w h; rw [World.setCells]; exact ih _ _ _ (h.setCell _ _ _)
theorem there_touch {w w' : World} {g o n : Nat} {S : List Nat} (h : w.there g o n) (ht : Touch S w w') (hg : g < w.heap.size) (hn : g ∉ S) : w'.there g o n :=
  fun j hj => ⟨by rw [ht.cell (a := ⟨g, o + j, none⟩) hg hn]; exact (h j hj).1, by rw [ht.frozen (a := ⟨g, o + j, none⟩) hg hn]; exact (h j hj).2⟩
theorem GRow.kept {w w' : World} {e sz : Nat} {v : Value} {l : List (List Value)} (h : GRow w e sz v l) {T : List Nat} (ht : Touch T w w') (hn : ∀ g, v.ownBlock = some g → g ∉ T) : GRow w' e sz v l := by
  refine ⟨h.1, ?_⟩
  rcases h.2 with h1 | ⟨g, o, cap, rfl, h2, h3, h4, h5, h6⟩
  · exact .inl h1
  · exact .inr ⟨g, o, cap, rfl, h2, h3, h4.kept ht (hn g rfl), range_touch h5 ht h4.lt (hn g rfl), there_touch h6 ht h4.lt (hn g rfl)⟩
theorem GRow.lt {w : World} {e sz : Nat} {v : Value} {l : List (List Value)} (h : GRow w e sz v l) {g : Nat} (hg : v.ownBlock = some g) : KindAt w g e := by
  rcases h.2 with ⟨rfl, _⟩ | ⟨g', o, cap, rfl, h2, h3, h4, h5, h6⟩
  · cases hg
  · cases hg; exact h4
theorem GRow.len {w : World} {e sz : Nat} {v : Value} {l : List (List Value)} (h : GRow w e sz v l) : ∃ a cap, v = .slice a l.length cap := by
  rcases h.2 with ⟨rfl, rfl⟩ | ⟨g', o, cap, rfl, _⟩
  · exact ⟨_, _, rfl⟩
  · exact ⟨_, _, rfl⟩
theorem rangeAt_flat {w : World} {g o sz : Nat} {l : List (List Value)} (h1 : ∀ c ∈ l, c.length = sz) (h : w.rangeAt g o l.flatten) {i : Nat} {c : List Value} (hi : l[i]? = some c) : w.rangeAt g (o + i * sz) c := by
  intro j v hv
  have hc := h1 c (List.mem_of_getElem? hi)
  have hj : j < sz := by rw [← hc]; exact (List.getElem?_eq_some_iff.1 hv).1
  have := h (i * sz + j) v ((flatten_get sz l i j c h1 hi hj).trans hv)
  rw [Nat.add_assoc]
  exact this
/-- an element of a row -/
theorem GRow.at_ {w : World} {e sz : Nat} {a : Option Addr} {n cap : Nat} {l : List (List Value)} (h : GRow w e sz (.slice a n cap) l) {i : Nat} {c : List Value} (hi : l[i]? = some c) : ∃ g o, a = some ⟨g, o, none⟩ ∧ KindAt w g e ∧ w.rangeAt g (o + i * sz) c := by
  rcases h.2 with ⟨_, rfl⟩ | ⟨g, o, cap', hv, h2, h3, h4, h5, h6⟩
  · cases hi
  · cases hv; exact ⟨g, o, rfl, h4, rangeAt_flat h.1 h5 hi⟩
theorem Row.g {w : World} {e sz : Nat} {v : Value} {l : List (List Value)} (h : Row w e sz v l) : GRow w e sz v l := by
  refine ⟨h.1, ?_⟩
  have hf := flatten_length sz l h.1
  rcases h.2.2 with ⟨h1, h2⟩ | ⟨g, cap, cur, hv, _, hh, h3, h4, h5, h6⟩
  · exact .inl ⟨h1, List.eq_nil_of_length_eq_zero h2⟩
  · refine .inr ⟨g, 0, cap, hv, h3, h4, ⟨cur, hh⟩, ?_, ?_⟩
    · intro j v hj
      rw [Nat.zero_add, cell_at hh]
      have hlt := (List.getElem?_eq_some_iff.1 hj).1
      rw [← h6] at hj
      rw [List.getElem?_take] at hj
      split at hj
      · simpa using hj
      · cases hj
    · intro j hj
      rw [Nat.zero_add, cell_at hh, frozen_at hh]
      refine ⟨?_, rfl⟩
      rw [Array.getElem?_eq_getElem (by omega)]
      rfl
theorem KindAt.grow {w w' : World} {g : Nat} {e : TypeId} (h : KindAt w g e) (hg : Grow w w') : KindAt w' g e := h.kept (T := []) (Touch.of_below hg) (by simp)
theorem GRow.grow {w w' : World} {e sz : Nat} {v : Value} {l : List (List Value)} (h : GRow w e sz v l) (hg : Grow w w') : GRow w' e sz v l := h.kept (T := []) (Touch.of_below hg) (by simp)
theorem rangeAt_append {w : World} {g o : Nat} {a b : List Value} (h : w.rangeAt g o a) (h2 : w.rangeAt g (o + a.length) b) : w.rangeAt g o (a ++ b) := by
  intro j v hj
  by_cases hl : j < a.length
  · rw [List.getElem?_append_left hl] at hj; exact h j v hj
  · rw [List.getElem?_append_right (by omega)] at hj
    have := h2 (j - a.length) v hj
    rwa [show o + a.length + (j - a.length) = o + j by omega] at this
/-- append of one element onto a row that may begin anywhere -/
theorem run_append_g {P : Program} (w : World) (t ty e : TypeId) (i : TypeInfo) (z : Value) (size bytes : Nat) (ht : P.underlying t = some (.slice e)) (hi : P.info? e = some i) (hz : i.zero = some z) (hsize : i.size = size) (hby : i.bytes = bytes) (hzs : z.cells.size = size) (hsz : 0 < size)
    (v : Value) (l : List (List Value)) (hrow : GRow w e size v l) (ad : Addr) (c : Nat) (news : List Value) (hl : news.length = size) (hnews : ∀ j u, news[j]? = some u → w.cell? (ad.add j) = some u) (h1 : ∀ u ∈ news, u.oneCell' = true)
    (hlen : l.length + 1 ≤ 1000000) (hbytes : bytes ≤ 1000000) :
    ∃ v' w', (Builtin.append_ #[t, t] ty #[v, .slice (some ad) 1 c]).run P w = .ok v' w' ∧ GRow w' e size v' (l ++ [news]) ∧ Touch (ownL v) w w' ∧ (v'.ownBlock = v.ownBlock ∨ ∃ g, v'.ownBlock = some g ∧ w.heap.size ≤ g) := by
  have hbb : (l.length + 1) * bytes ≤ 140737488355328 := Nat.le_trans (Nat.mul_le_mul hlen hbytes) (by omega)
  have hall : ∀ d ∈ l ++ [news], d.length = size := by
    intro d hd
    rcases List.mem_append.1 hd with h | h
    · exact hrow.1 d h
    · rw [List.mem_singleton.1 h]; exact hl
  have hfl := flatten_length size l hrow.1
  rcases hrow.2 with ⟨rfl, rfl⟩ | ⟨g, o, cap, rfl, h2, h3, h4, h5, h6⟩
  · obtain ⟨v', w', hr, r2, r3, r4, r5⟩ := run_append_own_at (P := P) w 0 t ty e i z size bytes ht hi hz hsize hby hzs hsz (.slice none 0 0) 0 [] (World.ownsRow_nil w 0 e size) ad 1 c news (by omega) hnews h1 (by unfold maxLen; omega) (by simpa using hbb) (Nat.zero_le _)
    refine ⟨v', w', hr, Row.g ⟨hall, ?_⟩, Touch.grown r3 (fun k e => ownL_mem.2 e), r5.imp id (fun h => ⟨_, h, Nat.le_refl _⟩)⟩
    simpa using r2
  · by_cases hroom : l.length + 1 ≤ cap
    · subst hsize
      have hle : l.length * i.size + news.length ≤ cap * i.size := by
        have := Nat.mul_le_mul_right i.size hroom
        rw [Nat.add_mul] at this
        omega
      have hrun := run_append_room_cells (P := P) w t ty e i ht hi g o l.length cap ad 1 c news (by omega) hnews h1 hroom
        (fun j hj => by have := (h6 (l.length * i.size + j) (by omega)).1; rwa [← Nat.add_assoc] at this)
        (fun j hj => by have := (h6 (l.length * i.size + j) (by omega)).2; rwa [← Nat.add_assoc] at this)
      have ht2 : w.there g (o + l.length * i.size) news.length := fun j hj => by have := h6 (l.length * i.size + j) (by omega); rwa [← Nat.add_assoc] at this
      refine ⟨_, _, hrun, ⟨hall, .inr ⟨g, o, cap, by rw [List.length_append]; rfl, by rw [List.length_append]; exact hroom, h3, KindAt.setCells _ _ _ _ h4, ?_, World.there_setCells h6 _ _ _⟩⟩, touch_setCells (by rw [ownL_mem]; rfl) _ _ _, .inl rfl⟩
      rw [List.flatten_append]
      refine rangeAt_append ?_ ?_
      · intro j v hj
        have hlt := (List.getElem?_eq_some_iff.1 hj).1
        rw [World.cell?_setCells_out _ _ _ _ _ (fun _ _ => .inl (by simp only; omega))]
        exact h5 j v hj
      · rw [hfl]
        have := World.rangeAt_setCells_same w g (o + l.length * i.size) news ht2
        simpa using this
    · obtain ⟨v', w', hr, r1, r2⟩ := run_append_arg_grows (P := P) w t ty e i z size bytes ht hi hz hsize hby hzs hsz ⟨g, o, none⟩ l.length cap l.flatten hfl (fun j u hu => by rw [Addr.add_mid]; exact h5 j u hu) ad 1 c news (by omega) hnews (by omega) (by unfold maxLen; omega) hbb
      refine ⟨v', w', hr, Row.g ⟨hall, ?_⟩, Touch.grown r2 (fun k e => by cases e), ?_⟩
      · have h0 : w'.ownsRow 0 e size v' (l.length + 1) (l.flatten ++ news) := ⟨r1.1, by
          rcases r1.2 with h | ⟨g', cap', cur, a, b, c⟩
          · exact .inl h
          · exact .inr ⟨g', cap', cur, a, Nat.zero_le _, c⟩⟩
        simpa using h0
      · rcases r1.2 with ⟨_, h⟩ | ⟨g', cap', cur, rfl, hb, hh, _⟩
        · omega
        · exact .inr ⟨g', rfl, hb⟩
/-- append of one element, in a walk -/
theorem wpList_append_g {P : Program} {ops : Array Oper} {rest : List Oper} {o : Oper} {a : Act} {w : World} {Q : Exit → Act → World → Prop} (hgd : o.guard = none) (s x : Operand) (t : TypeId)
    (ho : o.op = .call { callee := .builtin .append, args := #[s, x], argTypes := #[t, t] })
    (e : TypeId) (i : TypeInfo) (z : Value) (size bytes : Nat) (ht : P.underlying t = some (.slice e)) (hi : P.info? e = some i) (hz : i.zero = some z) (hsize : i.size = size) (hby : i.bytes = bytes) (hzs : z.cells.size = size) (hsz : 0 < size)
    (v : Value) (l : List (List Value)) (hs : a.eval s = v) (hrow : GRow w e size v l) (ad : Addr) (c : Nat) (news : List Value) (hx : a.eval x = .slice (some ad) 1 c) (hl : news.length = size) (hnews : ∀ j u, news[j]? = some u → w.cell? (ad.add j) = some u) (h1 : ∀ u ∈ news, u.oneCell' = true)
    (hlen : l.length + 1 ≤ 1000000) (hbytes : bytes ≤ 1000000) (hT : ∀ v' w', GRow w' e size v' (l ++ [news]) → (v'.ownBlock = v.ownBlock ∨ ∃ g, v'.ownBlock = some g ∧ w.heap.size ≤ g) → Touch (ownL v) w w' → wpList P ops Q rest (a.put o.dst v') w') : wpList P ops Q (o :: rest) a w := by
  refine wpList_plain hgd fun K' hK' => ?_
  obtain ⟨v', w', hr, h2, h3, h4⟩ := run_append_g (P := P) w t o.type e i z size bytes ht hi hz hsize hby hzs hsz v l hrow ad c news hl hnews h1 hlen hbytes
  unfold Oper.wp
  have hrun : (execOp a.eval o).run P w = .ok (.value v') w' := by
    unfold execOp
    simp only [ho, resolve, invoke, builtin, Sem.run_bind, Sem.run_pure, Result.andThen_ok, List.map_toArray, List.map_cons, List.map_nil, hs, hx, hr]
  rw [hrun]
  exact hK' _ _ (hT v' w' h2 h4 h3)
theorem gives_append_g {P : Program} {o : Oper} {a : Act} {w : World} {T : Value → World → Prop} (s x : Operand) (t : TypeId) (ho : o.op = .call { callee := .builtin .append, args := #[s, x], argTypes := #[t, t] })
    (e : TypeId) (i : TypeInfo) (z : Value) (size bytes : Nat) (ht : P.underlying t = some (.slice e)) (hi : P.info? e = some i) (hz : i.zero = some z) (hsize : i.size = size) (hby : i.bytes = bytes) (hzs : z.cells.size = size) (hsz : 0 < size)
    (v : Value) (l : List (List Value)) (hs : a.eval s = v) (hrow : GRow w e size v l) (ad : Addr) (c : Nat) (news : List Value) (hx : a.eval x = .slice (some ad) 1 c) (hl : news.length = size) (hnews : ∀ j u, news[j]? = some u → w.cell? (ad.add j) = some u) (h1 : ∀ u ∈ news, u.oneCell' = true)
    (hlen : l.length + 1 ≤ 1000000) (hbytes : bytes ≤ 1000000) (hT : ∀ v' w', GRow w' e size v' (l ++ [news]) → (v'.ownBlock = v.ownBlock ∨ ∃ g, v'.ownBlock = some g ∧ w.heap.size ≤ g) → Touch (ownL v) w w' → T v' w') : Oper.gives P o a w T := by
  obtain ⟨v', w', hr, h2, h3, h4⟩ := run_append_g (P := P) w t o.type e i z size bytes ht hi hz hsize hby hzs hsz v l hrow ad c news hl hnews h1 hlen hbytes
  refine gives_run (v := v') (w' := w') ?_ (hT v' w' h2 h4 h3)
  unfold execOp
  simp only [ho, resolve, invoke, builtin, Sem.run_bind, Sem.run_pure, Result.andThen_ok, List.map_toArray, List.map_cons, List.map_nil, hs, hx, hr]
#print axioms gives_append_g
end Go.Proofs.Ytokehhegomiciaa
