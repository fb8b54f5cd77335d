/- Rows of actions: copied; a machine is made: the walks. -/
import Derived.Test.YtieknecbheeekaaK10
set_option linter.unusedVariables false
set_option linter.unusedSimpArgs false
namespace Go.Proofs.Ytieknecbheeekaa
open Go.RowKit Go.Maps

/-- what is appended: elements that can be read there -/
def Src (w : World) (sz : Nat) (v : Value) (l : List (List Value)) : Prop := (∀ c ∈ l, c.length = sz ∧ ∀ u ∈ c, u.oneCell' = true) ∧ ((v = .slice none 0 0 ∧ l = []) ∨ ∃ ad c, v = .slice (some ad) l.length c ∧ ∀ j u, l.flatten[j]? = some u → w.cell? (ad.add j) = some u)
theorem Row.src {w : World} {e sz : Nat} {v : Value} {l : List (List Value)} (h : Row w e sz v l) (h1 : ∀ c ∈ l, ∀ u ∈ c, u.oneCell' = true) : Src w sz v l := by
  refine ⟨fun c hc => ⟨h.1 c hc, h1 c hc⟩, ?_⟩
  rcases h.2.2 with ⟨hv, hl⟩ | ⟨g, cap, cur, hv, _⟩
  · exact .inl ⟨hv, List.eq_nil_of_length_eq_zero hl⟩
  · exact .inr ⟨⟨g, 0, none⟩, cap, hv, fun j u hj => h.2.cells (g := g) (by rw [hv]; rfl) j u hj⟩
theorem Src.grow {w w' : World} {sz : Nat} {v : Value} {l : List (List Value)} (h : Src w sz v l) (hg : Grow w w') : Src w' sz v l := by
  refine ⟨h.1, ?_⟩
  rcases h.2 with h2 | ⟨ad, c, hv, hc⟩
  · exact .inl h2
  · refine .inr ⟨ad, c, hv, fun j u hj => ?_⟩
    have h3 := hc j u hj
    have h4 := World.block_lt_of_cell? w _ h3
    exact (Below.cell hg h4).trans h3
/-- append of a row, in a walk -/
theorem wpList_append_rows {P : Program} {ops : Array Oper} {rest : List Oper} {o : Oper} {a : Act} {w : World} {Q : Exit → Act → World → Prop} (hgd : o.guard = none) (s x : Operand) (t : TypeId)
    (ho : o.op = .call { callee := .builtin .append, args := #[s, x], argTypes := #[t, t] })
    (e : TypeId) (z : List Value) (size bytes : Nat) (ht : P.underlying t = some (.slice e)) (hinfo : (P.info? e).map (fun i => (i.zero, i.size, i.bytes)) = some (some (.agg z.toArray), size, bytes)) (hzl : z.length = size) (hsz : 0 < size)
    (v vs : Value) (l l' : List (List Value)) (hs : a.eval s = v) (hnn : v ≠ .slice none 0 0) (hrow : Row w e size v l) (hx : a.eval x = vs) (hsrc : Src w size vs l')
    (hlen : l.length + l'.length ≤ 1000000) (hbytes : bytes ≤ 1000000) (hT : ∀ v' w', AppAtG e size w v (l ++ l') v' w' → Touch (ownL v) w w' → v' ≠ .slice none 0 0 → wpList P ops Q rest (a.put o.dst v') w') : wpList P ops Q (o :: rest) a w := by
  obtain ⟨i, hi, hz, hsize, hby⟩ := info_parts hinfo
  have hzs : (Value.agg z.toArray).cells.size = size := by show z.toArray.size = size; rw [List.size_toArray, hzl]
  rcases hsrc.2 with ⟨rfl, rfl⟩ | ⟨ad, c, rfl, hcells⟩
  · refine wpList_append_own_none hgd s x t ho 0 e i size ht hi v l.length l.flatten hs hrow.2 hx (hT v w ⟨by rw [List.append_nil]; exact hrow, .inl rfl⟩ (Touch.refl _ _) hnn)
  · refine wpList_plain hgd fun K' hK' => ?_
    have hl' : l'.flatten.length = l'.length * size := flatten_length size l' (fun c hc => (hsrc.1 c hc).1)
    obtain ⟨v', w', hr, h2, h3, h4, h5⟩ := run_append_own_at (P := P) w 0 t o.type e i _ size bytes ht hi hz hsize hby hzs hsz v l.length l.flatten hrow.2 ad l'.length c l'.flatten hl' hcells (fun u hu => by obtain ⟨d, hd, hud⟩ := List.mem_flatten.1 hu; exact (hsrc.1 d hd).2 u hud) (by unfold maxLen; omega)
      (Nat.le_trans (Nat.mul_le_mul hlen hbytes) (by omega)) (Nat.zero_le _)
    unfold Oper.wp
    have hrun : (execOp a.eval o).run P w = .ok (.value v') w' := by
      unfold execOp
      simp only [ho, resolve, invoke, builtin, Sem.run_bind, Sem.run_pure, Result.andThen_ok, List.map_toArray, List.map_cons, List.map_nil, hs, hx, hr]
    rw [hrun]
    refine hK' _ _ (hT v' w' ⟨⟨?_, ?_⟩, ?_⟩ (Touch.grown h3 (fun k e => ownL_mem.2 e)) (fun e => hnn (h4.1 e).1))
    · intro d hd
      rcases List.mem_append.1 hd with h | h
      · exact hrow.1 d h
      · exact (hsrc.1 d h).1
    · rw [List.flatten_append, List.length_append]
      exact h2
    · rcases h5 with h | h
      · exact .inl h
      · exact .inr ⟨_, h, Nat.le_refl _⟩
theorem Row.nonnil {w : World} {e sz : Nat} {v : Value} {l : List (List Value)} (h : Row w e sz v l) (hn : v ≠ .slice none 0 0) : ∃ g cap, v = .slice (some ⟨g, 0, none⟩) l.length cap ∧ g < w.heap.size ∧ l.length ≤ cap := by
  rcases h.2.2 with ⟨hv, _⟩ | ⟨g, cap, cur, hv, _, hh, h3, _⟩
  · exact absurd hv hn
  · exact ⟨g, cap, hv, (Array.getElem?_eq_some_iff.1 hh).1, h3⟩
theorem made_row (w : World) : Row (w.alloc (.cells #[] 53)) 53 258 (.slice (some ⟨w.heap.size, 0, none⟩) 0 0) [] := ⟨by simp, World.ownsRow_made w #[] 0 (Nat.zero_le _) (by unfold maxLen; omega) rfl⟩
theorem mk_acts (w : World) : (Instr.buildSlice 23 0 #[]).run Try.prog w = .ok (.slice (some ⟨w.heap.size, 0, none⟩) 0 0) (w.alloc (.cells #[] 53)) := by kernel_rfl
/-- a new row of actions -/
def ARow (w : World) (g cap : Nat) (l : List AT) : Prop := Row w 53 258 (.slice (some ⟨g, 0, none⟩) l.length cap) (l.map ac)
theorem ARow.kept {w w' : World} {g cap : Nat} {l : List AT} (h : ARow w g cap l) {T : List Nat} (ht : Touch T w w') (hg : g ∉ T) : ARow w' g cap l := Row.kept h ht (fun k e => by cases e; exact hg)
theorem ARow.acts {w : World} {g cap : Nat} {l : List AT} (h : ARow w g cap l) : Acts w g (.slice (some ⟨g, 0, none⟩) l.length cap) l := by
  have hc : l.length ≤ cap := by
    have h2 := h.2.2
    rw [List.length_map] at h2
    rcases h2 with ⟨hv, _⟩ | ⟨g', cap', cur, hv, _, _, h3, _⟩
    · cases hv
    · cases hv; exact h3
  refine ⟨_, cap, rfl, hc, fun j p hj => ⟨0, rfl, h.lt rfl, ?_, ?_⟩⟩
  · rw [Nat.zero_add]
    have h2 : Row w 53 258 (.slice (some ⟨g, 0, none⟩) l.length cap) (l.map ac) := h
    exact h2.range (by rw [List.getElem?_map, hj]; rfl)
  · exact ac_len_inv (h.1 _ (List.mem_of_getElem? (show (l.map ac)[j]? = some (ac p) by rw [List.getElem?_map, hj]; rfl)))
def ACopy (l : List AT) (w : World) (e : Ending) (w' : World) : Prop := ∃ g cap, e = .returned (.slice (some ⟨g, 0, none⟩) l.length cap) ∧ ARow w' g cap l ∧ w.heap.size ≤ g ∧ Grow w w'
theorem acell_one (l : List AT) : ∀ c ∈ l.map ac, ∀ u ∈ c, u.oneCell' = true := by
  intro c hc u hu
  obtain ⟨p, _, rfl⟩ := List.mem_map.1 hc
  exact ac_one p u hu
theorem copy_done {w w1 w' : World} {l : List AT} (h1 : w1 = w.alloc (.cells #[] 53)) {v' : Value} (ha : AppAtG 53 258 w1 (.slice (some ⟨w.heap.size, 0, none⟩) 0 0) ([] ++ l.map ac) v' w') (ht : Touch (ownL (.slice (some ⟨w.heap.size, 0, none⟩) 0 0)) w1 w') (hn : v' ≠ .slice none 0 0) :
    ∃ g cap, v' = .slice (some ⟨g, 0, none⟩) l.length cap ∧ ARow w' g cap l ∧ w.heap.size ≤ g ∧ Grow w w' := by
  obtain ⟨hr, ho⟩ := ha
  rw [List.nil_append] at hr
  obtain ⟨g, cap, hv, hg, _⟩ := hr.nonnil hn
  rw [List.length_map] at hv
  subst hv
  refine ⟨g, cap, rfl, hr, ?_, ?_⟩
  · rcases ho with h | ⟨g', h, h2⟩
    · have e : g = w.heap.size := Option.some.inj h
      omega
    · have e : g = g' := Option.some.inj h
      have : w1.heap.size = w.heap.size + 1 := by rw [h1]; simp
      omega
  · have hg1 : Grow w w1 := by rw [h1]; exact Grow.alloc _ _
    exact Below.trans hg1 (ht.below hg1.size (fun k hk => by have e : w.heap.size = k := Option.some.inj (ownL_mem.1 hk); omega))
set_option maxHeartbeats 2000000 in
theorem aclone_ok {w : World} {g cap : Nat} {l : List AT} (h : ARow w g cap l) (hl : l.length ≤ 1000) : Calls Try.prog 29 #[.slice (some ⟨g, 0, none⟩) l.length cap] w (ACopy l w) := by
  have HS := Lib.hid (Src.grow (Row.src h (acell_one l)) (Grow.alloc w (.cells #[] 53)))
  have hmk := mk_acts
  have hqn : ∀ (w : World) (n : Nat), (binOp .eql 23 (.slice (some ⟨g, 0, none⟩) n cap) (.slice none 0 0)).run Try.prog w = .ok (.bool false) w := fun w n => by kernel_rfl
  have HL := Lib.hid (show ([] : List (List Value)).length + (l.map ac).length ≤ 1000000 by rw [List.length_map, List.length_nil]; omega)
  obtain ⟨W1, hW1⟩ : ∃ W1, W1 = w.alloc (.cells #[] 53) := ⟨_, rfl⟩
  have HR := Lib.hid (made_row w)
  obtain ⟨n, hn⟩ : ∃ n, n = l.length := ⟨_, rfl⟩
  rw [← hn] at HS hl ⊢
  clear h hn
  go_enter Try.func29, Try.ntmps29
  go_wp2_with (at_builtin; refine wpList_append_rows rfl _ _ 23 rfl 53 (ac zeroA) 258 272 Try.underlying23 infoA zeroA_length (by omega) (.slice (some ⟨w.heap.size, 0, none⟩) 0 0) (.slice (some ⟨g, 0, none⟩) n cap) [] (l.map ac) rfl (by simp) HR.out rfl HS.out HL.out (by omega) ?_; intro v' w' happ htch hnn)
  obtain ⟨g', cap', rfl, h1, h2, h3⟩ := copy_done rfl happ htch hnn
  have HF := Lib.hid (show ARow w' g' cap' l ∧ w.heap.size ≤ g' ∧ Grow w w' from ⟨h1, h2, h3⟩)
  clear h1 h2 h3 happ htch hnn
  go_wp2_with fail
  go_ret
  exact ⟨g', cap', rfl, HF.out⟩
#print axioms aclone_ok
/-- a machine is made -/
def MNewPost (C : Nat) (l : List AT) (w : World) (e : Ending) (w' : World) : Prop :=
  ∃ M W, e = .returned (.tuple #[.pointer (some ⟨M, 0, none⟩), .int .i64 0]) ∧ IsMach w' M C W l ∧ Grow w w' ∧ ∀ k ∈ W, w.heap.size ≤ k
set_option maxHeartbeats 2000000 in
theorem mnew_ok {w : World} {C B : Nat} {U : List Nat} {n : Nat} {s : CS} (hc : IsCache w C B U n s) {g cap : Nat} {l : List AT} (h : ARow w g cap l) (hl : l.length ≤ 1000) : Calls Try.prog 12 #[.pointer (some ⟨C, 0, none⟩), .slice (some ⟨g, 0, none⟩) l.length cap] w (MNewPost C l w) := by
  have HC := Lib.hid hc
  have HCL := Lib.hid (aclone_ok h hl)
  have HL := Lib.hid hl
  clear hc h hl
  go_enter Try.func12, Try.ntmps12
  go_wp2_with fail
  refine (cdisk_yes HC.out).mono ?_
  rintro e w' ⟨rfl, rfl⟩
  go_wp2_with fail
  refine HCL.out.mono ?_
  intro e w2 hpost
  obtain ⟨g', cap', he, h1, h2, h3⟩ := hpost
  subst he
  have HA := Lib.hid h1
  have HLO := Lib.hid h2
  have HG := Lib.hid h3
  clear h1 h2 h3
  go_upto_region 4 with (fail)
  have hob := heap_alloc_last w2 (.cells #[.pointer (some ⟨C, 0, none⟩), .slice (some ⟨g', 0, none⟩) l.length cap', .nilFunc] 86)
  have hta := Touch.alloc [] w2 (.cells #[.pointer (some ⟨C, 0, none⟩), .slice (some ⟨g', 0, none⟩) l.length cap', .nilFunc] 86)
  have hgl : g' < w2.heap.size := HA.out.lt rfl
  have HB := Lib.hid (show MBare (w2.alloc (.cells #[.pointer (some ⟨C, 0, none⟩), .slice (some ⟨g', 0, none⟩) l.length cap', .nilFunc] 86)) w2.heap.size C g' [w2.heap.size, g'] l (.slice (some ⟨g', 0, none⟩) l.length cap') from {
    obj := ⟨_, hob⟩
    acts := (HA.out.kept hta (by simp)).acts
    mW := by simp
    gW := by simp
    mg := by omega
    lt := fun k hk => by
      simp only [List.mem_cons, List.not_mem_nil, or_false] at hk
      simp
      rcases hk with rfl | rfl <;> omega })
  have HG2 := Lib.hid (Grow.trans HG.out (hta.below (Nat.le_refl _) (by simp)))
  have HRD := Lib.hid (ready_any HB.out (by have := HL.out; omega))
  obtain ⟨M, hM⟩ : ∃ M, M = w2.heap.size := ⟨_, rfl⟩
  have HM := Lib.hid (show w.heap.size ≤ M by rw [hM]; exact HG.out.size)
  rw [← hM] at HRD ⊢
  generalize w2.alloc (.cells #[.pointer (some ⟨C, 0, none⟩), .slice (some ⟨g', 0, none⟩) l.length cap', .nilFunc] 86) = w3 at *
  clear hob hta hgl hM HB
  go_wp2_with fail
  refine HRD.out.mono ?_
  intro e w4 hpost
  obtain ⟨⟨u, he⟩, nv, W', h1, h2, h3, h4⟩ := hpost
  subst he
  have HF := Lib.hid (show IsMach w4 M C W' l ∧ Grow w w4 ∧ ∀ k ∈ W', w.heap.size ≤ k from ⟨⟨g', _, nv, h1⟩, Below.trans HG2.out (h2.below HG2.out.size (fun k hk => by rw [List.mem_singleton.1 hk]; exact HM.out)), fun k hk => by
    rcases h3 k hk with h | h
    · simp only [List.mem_cons, List.not_mem_nil, or_false] at h
      rcases h with rfl | rfl
      · exact HM.out
      · exact HLO.out
    · exact Nat.le_trans HG2.out.size h⟩)
  clear h1 h2 h3 h4
  go_wp2_with fail
  go_ret2
  exact ⟨M, W', rfl, HF.out⟩
#print axioms mnew_ok
end Go.Proofs.Ytieknecbheeekaa
