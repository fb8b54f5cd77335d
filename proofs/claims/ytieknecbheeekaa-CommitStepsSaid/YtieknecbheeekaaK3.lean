/- Rows that grow, in a walk; the document's cache: put. -/
import Derived.Test.YtieknecbheeekaaK2
set_option linter.unusedVariables false
set_option linter.unusedSimpArgs false
namespace Go.Proofs.Ytieknecbheeekaa
open Go.RowKit Go.Maps

/-- the row behind an append -/
def AppAtG (t sz : Nat) (W : World) (vw : Value) (l : List (List Value)) : Value → World → Prop := fun v w =>
  Row w t sz v l ∧ (v.ownBlock = vw.ownBlock ∨ ∃ g, v.ownBlock = some g ∧ W.heap.size ≤ g)
def ownL (vw : Value) : List Nat := vw.ownBlock.toList
theorem ownL_mem {vw : Value} {k : Nat} : k ∈ ownL vw ↔ vw.ownBlock = some k := by unfold ownL; simp
/-- append of one element, in a walk -/
theorem wpList_append_row {P : Program} {ops : Array Oper} {rest : List Oper} {o : Oper} {a : Act} {w : World} {Q : Exit → Act → World → Prop} (hgd : o.guard = none) (s x : Operand) (t : TypeId)
    (ho : o.op = .call { callee := .builtin .append, args := #[s, x], argTypes := #[t, t] })
    (e : TypeId) (z : List Value) (size bytes : Nat) (ht : P.underlying t = some (.slice e)) (hinfo : (P.info? e).map (fun i => (i.zero, i.size, i.bytes)) = some (some (.agg z.toArray), size, bytes)) (hzl : z.length = size) (hsz : 0 < size)
    (v : Value) (l : List (List Value)) (hs : a.eval s = v) (hrow : Row w e size v l) (ad : Addr) (c : Nat) (news : List Value) (hx : a.eval x = .slice (some ad) 1 c) (hl : news.length = size) (hnews : ∀ j u, news[j]? = some u → w.cell? (ad.add j) = some u) (h1 : ∀ u ∈ news, u.oneCell' = true)
    (hlen : l.length + 1 ≤ 1000000) (hbytes : bytes ≤ 1000000) (hT : ∀ v' w', AppAtG e size w v (l ++ [news]) v' w' → Touch (ownL v) w w' → wpList P ops Q rest (a.put o.dst v') w') : wpList P ops Q (o :: rest) a w := by
  obtain ⟨i, hi, hz, hsize, hby⟩ := info_parts hinfo
  have hzs : (Value.agg z.toArray).cells.size = size := by show z.toArray.size = size; rw [List.size_toArray, hzl]
  refine wpList_plain hgd fun K' hK' => ?_
  obtain ⟨v', w', hr, h2, h3, h4, h5⟩ := run_append_own_at (P := P) w 0 t o.type e i _ size bytes ht hi hz hsize hby hzs hsz v l.length l.flatten hrow.2 ad 1 c news (by omega) hnews h1 (by unfold maxLen; omega)
    (Nat.le_trans (Nat.mul_le_mul hlen hbytes) (by omega)) (Nat.zero_le _)
  unfold Oper.wp
  have hrun : (execOp a.eval o).run P w = .ok (.value v') w' := by
    unfold execOp
    simp only [ho, resolve, invoke, builtin, Sem.run_bind, Sem.run_pure, Result.andThen_ok, List.map_toArray, List.map_cons, List.map_nil, hs, hx, hr]
  rw [hrun]
  refine hK' _ _ (hT v' w' ⟨⟨?_, ?_⟩, ?_⟩ (Touch.grown h3 (fun k e => ownL_mem.2 e)))
  · intro d hd
    rcases List.mem_append.1 hd with h | h
    · exact hrow.1 d h
    · rw [List.mem_singleton.1 h]; exact hl
  · rw [List.flatten_append, List.length_append]
    simpa using h2
  · rcases h5 with h | h
    · exact .inl h
    · exact .inr ⟨_, h, Nat.le_refl _⟩
/-- a row of one element -/
theorem buildSlice_gen {P : Program} (ty t : TypeId) (hu : P.underlying ty = some (.slice t)) (z : List Value) (size bytes : Nat) (hinfo : (P.info? t).map (fun i => (i.zero, i.size, i.bytes)) = some (some (.agg z.toArray), size, bytes)) (hz : z.length = size) (hs1 : size ≤ 16777216) (hs0 : 0 < size) (c : List Value) (hc : c.length = size) (w : World) :
    (Instr.buildSlice ty 1 #[(0, .agg c.toArray)]).run P w = .ok (.slice (some ⟨w.heap.size, 0, none⟩) 1 1) (w.alloc (.cells c.toArray t)) := by
  obtain ⟨i0, hi, hz0, hz1, hz2⟩ := info_parts hinfo
  have hfill : Instr.fill (fun i => some (i * size, size)) ((Array.range size).map (z.toArray[· % z.toArray.size]!)) [(0, .agg c.toArray)] = some c.toArray := by
    rw [fill_cons (off := 0 * size) (size := size) rfl (by show c.toArray.size = size; rw [List.size_toArray, hc]) (by simp), Instr.fill]
    congr 2
    rw [Nat.zero_mul]
    exact setMany_all _ _ (by show _ = c.toArray.toList.length; simp [hc])
  unfold Instr.buildSlice
  simp only [Sem.run_bind, run_underlying hu, Result.andThen_ok, sizeOf, typeInfo, hi, hz1, zeroValue, hz0]
  have hs2 : ¬ 16777216 < size := by omega
  have hs3 : size ≠ 0 := by omega
  simp [hi, hz1, hz0, hs2, hs3]
  rw [show (Value.agg z.toArray).cells = z.toArray from rfl, hfill]
  simp [newRow, go_sem]
theorem new_cells (w : World) (c : List Value) (t : TypeId) : ∀ j u, c[j]? = some u → (w.alloc (.cells c.toArray t)).cell? ((⟨w.heap.size, 0, none⟩ : Addr).add j) = some u := fun j u hj => by
  rw [Addr.add_mid, Nat.zero_add, cell_at (heap_alloc_last _ _)]
  simpa using hj
/-- a row of one element, in a walk: the world behind it under a letter -/
theorem wpList_bs {P : Program} {ops : Array Oper} {rest : List Oper} {o : Oper} {a : Act} {w : World} {Q : Exit → Act → World → Prop} (hgd : o.guard = none) (ty t : TypeId) (x : Operand) (ho : o.op = .buildSlice ty 1 #[(0, x)]) (hu : P.underlying ty = some (.slice t)) (z : List Value) (size bytes : Nat)
    (hinfo : (P.info? t).map (fun i => (i.zero, i.size, i.bytes)) = some (some (.agg z.toArray), size, bytes)) (hz : z.length = size) (hs1 : size ≤ 16777216) (hs0 : 0 < size) (c : List Value) (hc : c.length = size) (hx : a.eval x = .agg c.toArray)
    (hK : ∀ w' g, (∀ j u, c[j]? = some u → w'.cell? ((⟨g, 0, none⟩ : Addr).add j) = some u) → Grow w w' → wpList P ops Q rest (a.put o.dst (.slice (some ⟨g, 0, none⟩) 1 1)) w') : wpList P ops Q (o :: rest) a w := by
  refine wpList_plain hgd fun K' hK' => ?_
  unfold Oper.wp
  have hrun : (execOp a.eval o).run P w = .ok (.value (.slice (some ⟨w.heap.size, 0, none⟩) 1 1)) (w.alloc (.cells c.toArray t)) := by
    unfold execOp
    simp only [ho, List.map_toArray, List.map_cons, List.map_nil, hx, Sem.run_bind, buildSlice_gen ty t hu z size bytes hinfo hz hs1 hs0 c hc, Result.andThen_ok, Sem.run_pure]
  rw [hrun]
  exact hK' _ _ (hK _ _ (new_cells w c t) (Grow.alloc _ _))
/-- a row that grows from nothing, since W -/
structure GInv (t : TypeId) (sz : Nat) (W : World) (v : Value) (l : List (List Value)) (w : World) : Prop where
  row : Row w t sz v l
  grow : Grow W w
  lo : ∀ g, v.ownBlock = some g → W.heap.size ≤ g
theorem GInv.start (t : TypeId) (sz : Nat) {W w : World} (h : Grow W w) : GInv t sz W (.slice none 0 0) [] w := ⟨⟨by simp, ⟨by simp, .inl ⟨rfl, rfl⟩⟩⟩, h, fun g hg => by cases hg⟩
theorem GInv.later {t : TypeId} {sz : Nat} {W : World} {v : Value} {l : List (List Value)} {w w' : World} (h : GInv t sz W v l w) (hg : Grow w w') : GInv t sz W v l w' := ⟨h.row.kept (Touch.of_below (S := []) hg) (by simp), Grow.trans h.grow hg, h.lo⟩
theorem GInv.app {t : TypeId} {sz : Nat} {W : World} {v : Value} {l l' : List (List Value)} {w : World} (h : GInv t sz W v l w) {v' : Value} {w' : World} (ha : AppAtG t sz w v l' v' w') (ht : Touch (ownL v) w w') : GInv t sz W v' l' w' where
  row := ha.1
  grow := Below.trans h.grow (ht.below h.grow.size (fun k hk => h.lo k (ownL_mem.1 hk)))
  lo := fun g hg => by
    rcases ha.2 with h1 | ⟨g', h1, h2⟩
    · exact h.lo g (by rw [← h1]; exact hg)
    · rw [hg] at h1
      cases h1
      exact Nat.le_trans h.grow.size h2
theorem GInv.len {t : TypeId} {sz : Nat} {W : World} {v : Value} {l : List (List Value)} {w : World} (h : GInv t sz W v l w) : ∃ a cap, v = .slice a l.length cap := Row.len h.row
#print axioms wpList_bs

/-- laying a block into the document's list -/
def insStep (e : HE) (p : List HE × Bool) (x : HE) : List HE × Bool := if p.2 = false ∧ e.b < x.b then (p.1 ++ [e, x], true) else (p.1 ++ [x], p.2)
def insF (e : HE) (L : List HE) : List HE × Bool := L.foldl (insStep e) ([], false)
theorem insF_snoc (e : HE) (L : List HE) (x : HE) : insF e (L ++ [x]) = insStep e (insF e L) x := by unfold insF; rw [List.foldl_append]; rfl
theorem insF_take (e : HE) {L : List HE} {i : Nat} {x : HE} (h : L[i]? = some x) : insF e (L.take (i + 1)) = insStep e (insF e (L.take i)) x := by
  rw [List.take_add_one, h]; exact insF_snoc e _ x
theorem insF_len (e : HE) (L : List HE) : (insF e L).1.length ≤ 2 * L.length := by
  suffices h : ∀ n, n ≤ L.length → (insF e (L.take n)).1.length ≤ 2 * n by have := h _ (Nat.le_refl _); rwa [List.take_length] at this
  intro n
  induction n with
  | zero => intro _; simp [insF]
  | succ n ih =>
    intro hn
    have hx : L[n]? = some L[n] := List.getElem?_eq_getElem (by omega)
    rw [insF_take e hx]
    have := ih (by omega)
    unfold insStep
    split <;> simp <;> omega
theorem insF_perm (e : HE) (L : List HE) : (insF e L).1.Perm (L ++ (if (insF e L).2 then [e] else [])) := by
  suffices h : ∀ n, n ≤ L.length → (insF e (L.take n)).1.Perm (L.take n ++ (if (insF e (L.take n)).2 then [e] else [])) by have := h _ (Nat.le_refl _); rwa [List.take_length] at this
  intro n
  induction n with
  | zero => intro _; simp [insF]
  | succ n ih =>
    intro hn
    have hx : L[n]? = some L[n] := List.getElem?_eq_getElem (by omega)
    rw [insF_take e hx]
    have h1 := ih (by omega)
    rw [List.take_add_one, hx]
    generalize L.take n = M at *
    generalize L[n] = x at *
    generalize insF e M = p at *
    obtain ⟨l, d⟩ := p
    unfold insStep
    dsimp only at h1 ⊢
    by_cases c : d = false ∧ e.b < x.b
    · rw [if_pos c]
      obtain ⟨rfl, _⟩ := c
      simp only [Bool.false_eq_true, if_false, List.append_nil, if_true, Option.toList_some] at h1 ⊢
      have : (l ++ [e, x]).Perm (M ++ [e, x]) := h1.append_right _
      refine this.trans ?_
      rw [List.append_assoc]
      exact List.Perm.append_left _ (List.Perm.swap x e [])
    · rw [if_neg c]
      dsimp only
      rw [Option.toList_some, List.append_assoc]
      refine (h1.append_right [x]).trans ?_
      rw [List.append_assoc]
      exact List.Perm.append_left _ List.perm_append_comm
/-- the list behind put -/
def putL (e : HE) (L : List HE) : List HE := (insF e L).1 ++ (if (insF e L).2 then [] else [e])
theorem putL_perm (e : HE) (L : List HE) : (putL e L).Perm (e :: L) := by
  unfold putL
  refine ((insF_perm e L).append_right _).trans ?_
  rw [List.append_assoc]
  cases (insF e L).2 <;> simp <;> exact List.perm_append_comm
theorem putL_len (e : HE) (L : List HE) : (putL e L).length = L.length + 1 := by rw [(putL_perm e L).length_eq]; rfl
#print axioms putL_perm

theorem sizeE : (Try.prog.info? 80).map (·.size) = some 258 := by kernel_rfl
/-- the document's cache behind put -/
def PutPost (Q R : Nat) (V : List Nat) (d : DS) (L' : List HE) (w : World) (e : Ending) (w' : World) : Prop :=
  (∃ v, e = .returned v) ∧ ∃ V', IsRC w' Q R V' d L' ∧ Touch V w w' ∧ ∀ k ∈ V', k ∈ V ∨ w.heap.size ≤ k
set_option maxRecDepth 100000 in
set_option maxHeartbeats 4000000 in
theorem rput_has {w : World} {Q R : Nat} {V : List Nat} {d : DS} {L : List HE} (h : IsRC w Q R V d L) (hL : L.length ≤ 1000000) (e : HE) (he : e.h.1.length = 256) (hn : (L.map HE.b).Nodup) (i : Nat) (x : HE) (hi : L[i]? = some x) (hx : x.b = e.b) :
    Calls Try.prog 26 #[.pointer (some ⟨Q, 0, none⟩), .agg (ec e).toArray] w (PutPost Q R V d (L.set i e) w) := by
  have HV := Lib.hid h.lt
  have h1 := h.grow (Grow.alloc w (.cells (ec e).toArray 80))
  have HF := Lib.hid (rfind_any h1 hL e.b)
  have HI := Lib.hid (show ∀ (j : Nat) y, L[j]? = some y → y.b = e.b → j = i from fun j y hj hy => by
    have hjl := (List.getElem?_eq_some_iff.1 hj).1
    have hil := (List.getElem?_eq_some_iff.1 hi).1
    have := (List.getElem?_inj (i := j) (j := i) (by rw [List.length_map]; exact hjl) hn).1 (by rw [List.getElem?_map, List.getElem?_map, hj, hi]; simp [hx, hy])
    exact this)
  have HX := Lib.hid (show x ∈ L ∧ x.b = e.b from ⟨List.mem_of_getElem? hi, hx⟩)
  have HIL := Lib.hid (List.getElem?_eq_some_iff.1 hi).1
  have HEL := Lib.hid (ec_length he)
  have HOB := Lib.hid (heap_alloc_last w (.cells (ec e).toArray 80))
  obtain ⟨BX, hBX⟩ : ∃ BX, BX = w.heap.size := ⟨_, rfl⟩
  have HBX := Lib.hid hBX
  have HE0 := Lib.hid (show (ec e).toArray[0]? = some (.int .i64 e.b) from rfl)
  have HCX := Lib.hid (show BX < (w.alloc (.cells (ec e).toArray 80)).heap.size ∧ (w.alloc (.cells (ec e).toArray 80)).heap[BX]? = some (.cells (ec e).toArray 80) by rw [hBX]; exact ⟨by simp, HOB.out⟩)
  have HG1 := Lib.hid (Grow.alloc w (.cells (ec e).toArray 80))
  have hz : (w.alloc (.cells (ec e).toArray 80)).cell? ⟨w.heap.size, 0, none⟩ = some (.int .i64 e.b) := (cell_at HOB.out 0).trans HE0.out
  have HH1 := Lib.hid h1
  have HSz := Lib.hid (show (Try.prog.info? 80).map (·.size) = some (ec e).toArray.size by rw [List.size_toArray, HEL.out]; exact sizeE)
  clear h h1 hi hx hn he
  generalize hea : (ec e).toArray = EA at *
  have HEA := Lib.hid hea
  clear hea
  go_enter Try.func26, Try.ntmps26
  go_wp2_with fail
  rw [← hBX] at hz ⊢
  generalize w.alloc (.cells EA 80) = W1 at *
  clear HOB hBX
  go_wp2_with fail
  refine HF.out.mono ?_
  rintro en w' ⟨hres, rfl⟩
  have hres2 : en = .returned (.int .i64 (i : Int)) := by
    rcases hres with ⟨j, y, hj, hy, h2⟩ | ⟨h2, _⟩
    · rw [HI.out j y hj hy] at h2; exact h2
    · exact absurd HX.out.2 (h2 _ HX.out.1)
  subst hres2
  clear hres hz
  obtain ⟨T, vl, hV, hp⟩ := HH1.out
  obtain ⟨a, cap, rfl⟩ := hp.len
  obtain ⟨g, rfl, _, hgl, _⟩ := hp.at_ (List.getElem?_eq_getElem HIL.out)
  have HP := Lib.hid hp
  have HVV := Lib.hid hV
  obtain ⟨n, hn⟩ : ∃ n, n = L.length := ⟨_, rfl⟩
  have HCQ := Lib.hid (show Q < W1.heap.size ∧ W1.cell? ⟨Q, 1, none⟩ = some (.slice (some ⟨g, 0, none⟩) n cap) by rw [hn]; exact ⟨(Array.getElem?_eq_some_iff.1 hp.obj).1, cell_at hp.obj 1⟩)
  have HN := Lib.hid hn
  have b0 : (0 : Int) ≤ (i : Int) := by omega
  have b1 : (i : Int) < (n : Int) := by have := HIL.out; omega
  have HB0 := Lib.hid b0
  have HB1 := Lib.hid b1
  clear hp hV hn
  have hge : decide (0 ≤ (i : Int)) = true := by simp
  rw [← HEA.out] at HCX HSz
  go_upto_region 3 with (fail)
  refine wp_region_facts_tail 7 (by kernel_rfl) (by kernel_rfl) [[], [(0, some 14)], [(1, some 15)], [(2, some 16)], [], [], [(0, some 14), (1, some 15), (2, some 16), (3, some 17), (4, some 18), (5, some 19)]] [(0, some 14), (1, some 15), (2, some 16), (3, some 17), (4, some 18), (5, some 19), (6, some 20)] (by kernel_rfl) (by kernel_rfl) (by kernel_rfl) (Touch []) (Touch.refl []) (fun _ _ _ h h' => h.trans h' (fun i hi => .inl hi)) [Is (Value.pointer (some ⟨Q, 0, none⟩)), Is (Value.pointer (some ⟨Q, 0, none⟩)), Is (Value.pointer (some ⟨Q, 1, none⟩)), Is (Value.slice (some ⟨g, 0, none⟩) n cap), Is (Value.int .i64 (i : Int)), Is (Value.agg (ec e).toArray), Is (Value.pointer (some ⟨g, i * 258, none⟩))] rfl ⟨is_stab _ _, is_stab _ _, is_stab _ _, is_stab _ _, is_stab _ _, is_stab _ _, is_stab _ _, trivial⟩ ⟨?o0, ?o1, ?o2, ?o3, ?o4, ?o5, ?o6, trivial⟩ ?_
  case o0 =>
    intro vals wq hRq hpq
    simp only [List.getD_cons_zero, List.getD_cons_succ, canonP]
    simp only [Oper.gives]
    go_simp
    exact ⟨is_mk _ _, (Touch.refl []) _⟩
  case o1 =>
    intro vals wq hRq hpq
    simp only [factsP, List.getD_cons_zero, List.getD_cons_succ] at hpq
    have f0 := hpq.1
    replace hpq := hpq.2
    clear hpq
    replace f0 : vals 0 = _ := f0
    simp only [List.getD_cons_zero, List.getD_cons_succ, canonP, f0]
    clear f0
    simp only [Oper.gives]
    go_simp
    exact ⟨is_mk _ _, Touch.refl _ _⟩
  case o2 =>
    intro vals wq hRq hpq
    simp only [factsP, List.getD_cons_zero, List.getD_cons_succ] at hpq
    have f1 := hpq.1
    replace hpq := hpq.2
    clear hpq
    replace f1 : vals 1 = _ := f1
    simp only [List.getD_cons_zero, List.getD_cons_succ, canonP, f1]
    clear f1
    simp only [Oper.gives]
    go_simp
    exact ⟨is_mk _ _, (Touch.refl []) _⟩
  case o3 =>
    intro vals wq hRq hpq
    simp only [factsP, List.getD_cons_zero, List.getD_cons_succ] at hpq
    have f2 := hpq.1
    replace hpq := hpq.2
    clear hpq
    replace f2 : vals 2 = _ := f2
    simp only [List.getD_cons_zero, List.getD_cons_succ, canonP, f2]
    clear f2
    have hcc : wq.cell? ⟨Q, 1, none⟩ = some (.slice (some ⟨g, 0, none⟩) n cap) := (Touch.cell ((Touch.drew [] _).trans hRq (by simp)) HCQ.out.1 (by simp)).trans HCQ.out.2
    simp only [Oper.gives]
    go_simp
    exact ⟨is_mk _ _, Touch.refl _ _⟩
  case o4 =>
    intro vals wq hRq hpq
    simp only [List.getD_cons_zero, List.getD_cons_succ, canonP]
    simp only [Oper.gives]
    go_simp
    exact ⟨is_mk _ _, (Touch.refl []) _⟩
  case o5 =>
    intro vals wq hRq hpq
    simp only [List.getD_cons_zero, List.getD_cons_succ, canonP]
    have hbx : wq.heap[BX]? = some (.cells (ec e).toArray 80) := (Touch.block ((Touch.drew [] _).trans hRq (by simp)) BX HCX.out.1 (by simp)).trans HCX.out.2
    exact gives_load_row 80 _ rfl BX rfl 80 (ec e).toArray (0, 0) _ hbx Try.underlying80 rfl HSz.out ⟨is_mk _ _, Touch.refl _ _⟩
  case o6 =>
    intro vals wq hRq hpq
    simp only [factsP, List.getD_cons_zero, List.getD_cons_succ] at hpq
    have f0 := hpq.1
    replace hpq := hpq.2
    have f1 := hpq.1
    replace hpq := hpq.2
    have f2 := hpq.1
    replace hpq := hpq.2
    have f3 := hpq.1
    replace hpq := hpq.2
    have f4 := hpq.1
    replace hpq := hpq.2
    have f5 := hpq.1
    replace hpq := hpq.2
    clear hpq
    replace f0 : vals 0 = _ := f0
    replace f1 : vals 1 = _ := f1
    replace f2 : vals 2 = _ := f2
    replace f3 : vals 3 = _ := f3
    replace f4 : vals 4 = _ := f4
    replace f5 : vals 5 = _ := f5
    simp only [List.getD_cons_zero, List.getD_cons_succ, canonP, f0, f1, f2, f3, f4, f5]
    clear f0 f1 f2 f3 f4 f5
    have b0 := HB0.out
    have b1 := HB1.out
    simp only [Oper.gives]
    go_simp
    exact ⟨is_mk _ _, Touch.refl _ _⟩
  intro vals wz hRwz hfwz
  simp only [AllFacts] at hfwz
  have g0 := hfwz.1
  replace hfwz := hfwz.2
  have g1 := hfwz.1
  replace hfwz := hfwz.2
  have g2 := hfwz.1
  replace hfwz := hfwz.2
  have g3 := hfwz.1
  replace hfwz := hfwz.2
  have g4 := hfwz.1
  replace hfwz := hfwz.2
  have g5 := hfwz.1
  replace hfwz := hfwz.2
  have g6 := hfwz.1
  replace hfwz := hfwz.2
  clear hfwz
  replace g0 : vals 0 = _ := g0
  replace g1 : vals 1 = _ := g1
  replace g2 : vals 2 = _ := g2
  replace g3 : vals 3 = _ := g3
  replace g4 : vals 4 = _ := g4
  replace g5 : vals 5 = _ := g5
  replace g6 : vals 6 = _ := g6
  simp only [List.drop_succ_cons, List.drop_zero]
  simp only [canonP, Act.put, List.setIfInBounds_toArray, List.set_cons_succ, List.set_cons_zero, g0, g1, g2, g3, g4, g5, g6]
  clear g0 g1 g2 g3 g4 g5 g6
  have HTW := Lib.hid ((Touch.drew [] W1).trans hRwz (by simp))
  clear hRwz
  have HP2 := Lib.hid (HP.out.kept HTW.out (by simp))
  have HTH := Lib.hid (show wz.there g (i * 258) (ec e).toArray.size by rw [List.size_toArray, HEL.out]; have := HP2.out.row.there (i := i) (by rw [List.length_map]; exact HIL.out); exact this)
  have hst : Row (wz.setCells g (i * 258) (ec e)) 80 258 (.slice (some ⟨g, 0, none⟩) L.length cap) ((L.set i e).map ec) := by
    have h3 : Row wz 80 258 (.slice (some ⟨g, 0, none⟩) L.length cap) (L.map ec) := HP2.out.row
    have h2 := Row.store h3 HEL.out (by rw [List.length_map]; exact HIL.out)
    rw [List.map_set]; exact h2
  have HST := Lib.hid hst
  have htg : Touch [g] wz (wz.setCells g (i * 258) (ec e)) := touch_setCells (by simp) _ _ _
  have HTG := Lib.hid htg
  have hgQ := HP.out.bw g rfl
  have HF2 := Lib.hid (show IsRC (wz.setCells g (i * 258) (ec e)) Q R V d (L.set i e) from ⟨T, .slice (some ⟨g, 0, none⟩) L.length cap, HVV.out, {
    obj := (htg.block Q (Nat.lt_of_lt_of_le HCQ.out.1 HTW.out.size) (by simpa using fun e => hgQ.1 e.symm)).trans HP2.out.obj
    row := by have := hst; exact this
    ref := HP2.out.ref.kept htg (fun k hk hm => hgQ.2 (List.mem_singleton.1 hm ▸ hk))
    qT := HP.out.qT
    bw := HP.out.bw }⟩)
  clear hst htg hgQ b0 b1
  go_wp2_with (refine wpList_store_mid rfl 80 _ _ rfl g (i * 258) (ec e).toArray rfl rfl HTH.out HSz.out (all_oneCell_toArray (ec_one _)) ?_)
  go_end0
  refine ⟨⟨_, rfl⟩, V, HF2.out, ?_, fun k hk => .inl hk⟩
  refine ((Touch.of_below (S := V) HG1.out).trans (HTW.out.mono (by simp)) (fun k hk => .inl hk)).trans HTG.out (fun k hk => .inl ?_)
  rw [List.mem_singleton.1 hk, HVV.out]
  simp [Value.ownBlock]
#print axioms rput_has
end Go.Proofs.Ytieknecbheeekaa
