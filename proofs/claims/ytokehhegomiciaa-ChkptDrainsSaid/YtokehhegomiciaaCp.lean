/- Copies in memory: rows of them. -/
import Derived.Test.YtokehhegomiciaaMaps
import Derived.Laws.MakeOwn
set_option linter.unusedVariables false
set_option linter.unusedSimpArgs false
namespace Go.Proofs.Ytokehhegomiciaa
open Go.RowKit Go.Maps

abbrev Cp := Int × Blk
def ccell (c : Cp) : List Value := .int .i64 c.1 :: bc c.2
def cvv (c : Cp) : Value := .agg (ccell c).toArray
theorem ccell_inj {a b : Cp} (h : ccell a = ccell b) : a = b := by
  unfold ccell at h
  have h1 := List.cons.inj h
  exact Prod.ext (Value.int.inj h1.1).2 (bc_inj h1.2)
theorem ccell_length {c : Cp} (h : c.2.length = 256) : (ccell c).length = 257 := by unfold ccell; rw [List.length_cons, bc_length, h]
theorem ccell_one (c : Cp) : ∀ v ∈ ccell c, v.oneCell' = true := by
  intro v hv
  rcases List.mem_cons.1 hv with rfl | h
  · rfl
  · exact bc_one _ v h
def zeroC : Cp := (0, zeroB)
theorem zeroC_ok : zeroC.2.length = 256 := by have := zero_size; rw [List.size_toArray, bc_length] at this; exact this
theorem info40 : (Try.prog.info? 35).map (fun i => (i.zero, i.size, i.bytes)) = some (some (.agg (ccell zeroC).toArray), 257, 264) := by kernel_rfl
theorem info40b : (Try.prog.info? 35).map (fun i => (i.zero, i.size)) = some (some (.agg (ccell zeroC).toArray), 257) := by kernel_rfl
theorem zero40 (w : World) : (zeroValue 35).run Try.prog w = .ok (.agg (ccell zeroC).toArray) w := (zero_of_info info40b).1 w
theorem size40 : (Try.prog.info? 35).map (·.size) = some 257 := (zero_of_info info40b).2
theorem csize {c : Cp} (h : c.2.length = 256) : (Try.prog.info? 35).map (·.size) = some (ccell c).toArray.size := by rw [List.size_toArray, ccell_length h]; exact size40
theorem csizeL {c : Cp} (h : c.2.length = 256) : (Try.prog.info? 35).map (·.size) = some (ccell c).length := by rw [ccell_length h]; exact size40
theorem zsize {c : Cp} (h : c.2.length = 256) : (ccell zeroC).toArray.size = (ccell c).toArray.size := by rw [List.size_toArray, List.size_toArray, ccell_length zeroC_ok, ccell_length h]
theorem setMany_all (xs vs : List Value) (h : xs.length = vs.length) : setMany xs 0 vs = vs := by
  apply List.ext_getElem?
  intro k
  rw [setMany_get _ _ _ _ (by omega)]
  split
  · simp
  · rename_i hk
    rw [List.getElem?_eq_none (by omega), List.getElem?_eq_none (by omega)]
theorem setMany_tail (x : Value) (xs vs : List Value) (h : xs.length = vs.length) : setMany (x :: xs) 1 vs = x :: vs := by
  apply List.ext_getElem?
  intro k
  rw [setMany_get _ _ _ _ (by simp; omega)]
  cases k with
  | zero => rw [if_neg (by omega)]; simp
  | succ k =>
    split
    · simp
    · rename_i hk
      rw [List.getElem?_eq_none (by simp; omega), List.getElem?_eq_none (by simp; omega)]
theorem foldSet_toList : ∀ (vs : List Value) (k off : Nat) (cells : Array Value), ((vs.zipIdx k).foldl (fun cs (p : Value × Nat) => cs.setIfInBounds (off + p.2) p.1) cells).toList = setMany cells.toList (off + k) vs := by
  intro vs
  induction vs with
  | nil => intro k off cells; rfl
  | cons v r ih =>
    intro k off cells
    rw [List.zipIdx_cons, List.foldl_cons, ih, setMany, Array.toList_setIfInBounds, Nat.add_assoc]
theorem foldSet (vs : Array Value) (off : Nat) (cells : Array Value) : vs.zipIdx.foldl (fun cs (p : Value × Nat) => cs.setIfInBounds (off + p.2) p.1) cells = (setMany cells.toList off vs.toList).toArray := by
  rw [← Array.foldl_toList]
  have := foldSet_toList vs.toList 0 off cells
  rw [Nat.add_zero] at this
  rw [← this]
  simp
theorem fill_cons {place : Nat → Option (Nat × Nat)} {cells : Array Value} {i off size : Nat} {v : Value} {rest : List (Nat × Value)} (hp : place i = some (off, size)) (h1 : v.cells.size = size) (h2 : off + size ≤ cells.size) :
    Instr.fill place cells ((i, v) :: rest) = Instr.fill place (setMany cells.toList off v.cells.toList).toArray rest := by
  rw [Instr.fill, hp]
  dsimp only
  rw [if_neg (by rw [h1]; simp; omega), foldSet]
def CRow (w : World) (v : Value) (cs : List Cp) : Prop := Row w 35 257 v (cs.map ccell)
theorem CRow.grow {w w' : World} {v : Value} {cs : List Cp} (h : CRow w v cs) (hg : Grow w w') : CRow w' v cs := Row.kept h (Touch.of_below (S := []) hg) (by simp)
theorem IRow.grow {w w' : World} {v : Value} {zs : List Int} (h : IRow w v zs) (hg : Grow w w') : IRow w' v zs := Row.kept h (Touch.of_below (S := []) hg) (by simp)
theorem CRow.open_ {w : World} {v : Value} {cs : List Cp} (h : CRow w v cs) (hl : 0 < cs.length) : ∃ g cap, v = .slice (some ⟨g, 0, none⟩) cs.length cap ∧ g < w.heap.size := by
  obtain ⟨g, cap, hv, hg, _⟩ := Row.open_ h (by rw [List.length_map]; exact hl)
  rw [List.length_map] at hv
  exact ⟨g, cap, hv, hg⟩
theorem CRow.range {w : World} {g n cap : Nat} {cs : List Cp} (h : CRow w (.slice (some ⟨g, 0, none⟩) n cap) cs) {k : Nat} {c : Cp} (hk : cs[k]? = some c) : w.rangeAt g (k * 257) (ccell c) := Row.range h (by rw [List.getElem?_map, hk]; rfl)
theorem IRow.open_ {w : World} {v : Value} {zs : List Int} (h : IRow w v zs) (hl : 0 < zs.length) : ∃ g cap, v = .slice (some ⟨g, 0, none⟩) zs.length cap ∧ g < w.heap.size := by
  obtain ⟨g, cap, hv, hg, _⟩ := Row.open_ h (by rw [List.length_map]; exact hl)
  rw [List.length_map] at hv
  exact ⟨g, cap, hv, hg⟩
set_option maxRecDepth 100000 in
theorem buildSlice_copy (c : Cp) (hc : c.2.length = 256) (w : World) : (Instr.buildSlice 36 1 #[(0, .agg (ccell c).toArray)]).run Try.prog w = .ok (.slice (some ⟨w.heap.size, 0, none⟩) 1 1) (w.alloc (.cells (ccell c).toArray 35)) := by
  obtain ⟨i0, hi, hz0, hz1, hz2⟩ := info_parts info40
  have hl := ccell_length hc
  generalize ccell c = c at *
  have hfill : Instr.fill (fun i => some (i * 257, 257)) ((Array.range 257).map ((ccell zeroC).toArray[· % (ccell zeroC).toArray.size]!)) [(0, .agg c.toArray)] = some c.toArray := by
    rw [fill_cons (off := 0 * 257) (size := 257) rfl (by show c.toArray.size = 257; rw [List.size_toArray, hl]) (by simp), Instr.fill]
    congr 2
    rw [Nat.zero_mul]
    exact setMany_all _ _ (by show _ = c.toArray.toList.length; simp [hl])
  unfold Instr.buildSlice
  simp only [Sem.run_bind, run_underlying Try.underlying36, Result.andThen_ok, sizeOf, typeInfo, hi, hz1, zeroValue, hz0]
  simp [hi, hz1, hz0]
  rw [show (Value.agg (ccell zeroC).toArray).cells = (ccell zeroC).toArray from rfl, hfill]
  simp [newRow, go_sem]
theorem wpList_buildSlice {P : Program} {ops : Array Oper} {rest : List Oper} {o : Oper} {a : Act} {w w' : World} {v : Value} {Q : Exit → Act → World → Prop} (hgd : o.guard = none) (t : TypeId) (len : Nat) (parts : Array (Nat × Operand)) (ho : o.op = .buildSlice t len parts)
    (hf : (Instr.buildSlice t len (parts.map fun (i, x) => (i, a.eval x))).run P w = .ok v w') (hK : wpList P ops Q rest (a.put o.dst v) w') : wpList P ops Q (o :: rest) a w := by
  refine wpList_plain hgd fun K' hK' => ?_
  unfold Oper.wp
  have hrun : (execOp a.eval o).run P w = .ok (.value v) w' := by
    unfold execOp
    simp only [ho, Sem.run_bind, hf, Result.andThen_ok, Sem.run_pure]
  rw [hrun]
  exact hK' _ _ hK
theorem CRow.len {w : World} {v : Value} {l : List Cp} (h : CRow w v l) : ∃ a cap, v = .slice a l.length cap := by
  obtain ⟨a, cap, hv⟩ := Row.len h
  rw [List.length_map] at hv
  exact ⟨a, cap, hv⟩
theorem IRow.len {w : World} {v : Value} {l : List Int} (h : IRow w v l) : ∃ a cap, v = .slice a l.length cap := by
  obtain ⟨a, cap, hv⟩ := Row.len h
  rw [List.length_map] at hv
  exact ⟨a, cap, hv⟩
theorem CRow.blk {w : World} {v : Value} {l : List Cp} (h : CRow w v l) {x : Cp} (hx : x ∈ l) : x.2.length = 256 := by
  have := h.1 _ (List.mem_map_of_mem hx)
  unfold ccell at this
  rw [List.length_cons, bc_length] at this
  omega
theorem built40 (parts : List (Nat × Value)) : Try.prog.built 35 parts = Instr.fill (fun i => ([(0, 1), (1, 256)] : List (Nat × Nat)).toArray[i]?) (ccell zeroC).toArray parts := by kernel_rfl
theorem built_copy (b : Int) (x : Blk) (hx : x.length = 256) : Try.prog.built 35 [(0, .int .i64 b), (1, .agg (bc x).toArray)] = some (ccell (b, x)).toArray := by
  have hl : (bc x).length = 256 := by rw [bc_length]; exact hx
  have hz : (bc zeroB).length = 256 := by rw [bc_zero, List.length_replicate]
  rw [built40, fill_cons (off := 0) (size := 1) rfl rfl (by rw [List.size_toArray, ccell_length zeroC_ok]; omega)]
  rw [fill_cons (off := 1) (size := 256) rfl (by show (bc x).toArray.size = 256; rw [List.size_toArray, hl]) (by rw [List.size_toArray, setMany_length]; show 1 + 256 ≤ (ccell zeroC).length; rw [ccell_length zeroC_ok]; omega)]
  rw [Instr.fill]
  congr 2
  show setMany (setMany (ccell zeroC) 0 [.int .i64 b]) 1 (bc x) = ccell (b, x)
  unfold ccell
  simp only [setMany, List.set_cons_zero]
  exact setMany_tail _ _ _ (by show (bc zeroB).length = _; rw [hz, hl])
set_option maxRecDepth 100000 in
theorem CRow.at_ {w : World} {a : Option Addr} {n cap : Nat} {cs : List Cp} (h : CRow w (.slice a n cap) cs) {k : Nat} {c : Cp} (hk : cs[k]? = some c) : ∃ g, a = some ⟨g, 0, none⟩ ∧ g < w.heap.size ∧ w.rangeAt g (k * 257) (ccell c) ∧ w.cell? ⟨g, k * 257, none⟩ = some (.int .i64 c.1) ∧ c.2.length = 256 := by
  obtain ⟨g, cap', hv, hg⟩ := h.open_ (by have := (List.getElem?_eq_some_iff.1 hk).1; omega)
  have hb := h.blk (List.mem_of_getElem? hk)
  cases hv
  have h0 := h.range hk 0 (.int .i64 c.1) rfl
  exact ⟨g, rfl, hg, h.range hk, h0, hb⟩
/-- a copy built; one copy in a row of its own: the world behind it under a letter -/
theorem wpList_build_copy {w : World} {ops : Array Oper} {rest : List Oper} {o : Oper} {a : Act} {Q : Exit → Act → World → Prop} (hgd : o.guard = none) (x y : Operand) (ho : o.op = .build 35 #[(0, x), (1, y)]) (z : Int) (X : Blk) (hX : X.length = 256) (hx : a.eval x = .int .i64 z) (hy : a.eval y = .agg (bc X).toArray)
    (hK : wpList Try.prog ops Q rest (a.put o.dst (.agg (ccell (z, X)).toArray)) w) : wpList Try.prog ops Q (o :: rest) a w := by
  have hb : Try.prog.built 35 ((#[(0, x), (1, y)] : Array (Nat × Operand)).map fun (i, x) => (i, a.eval x)).toList = some (ccell (z, X)).toArray := by
    simp only [List.map_toArray, List.map_cons, List.map_nil, hx, hy]; exact built_copy z X hX
  refine wpList_build hgd 35 _ ho (by rw [hb]; rfl) ?_
  rw [hb]; exact hK
theorem wpList_bs_copy {w : World} {ops : Array Oper} {rest : List Oper} {o : Oper} {a : Act} {Q : Exit → Act → World → Prop} (hgd : o.guard = none) (x : Operand) (ho : o.op = .buildSlice 36 1 #[(0, x)]) (c : Cp) (hc : c.2.length = 256) (hx : a.eval x = .agg (ccell c).toArray)
    (hK : ∀ w' g, (∀ j u, (ccell c)[j]? = some u → w'.cell? ((⟨g, 0, none⟩ : Addr).add j) = some u) → Grow w w' → wpList Try.prog ops Q rest (a.put o.dst (.slice (some ⟨g, 0, none⟩) 1 1)) w') : wpList Try.prog ops Q (o :: rest) a w :=
  wpList_buildSlice hgd _ 1 _ ho (by simp only [List.map_toArray, List.map_cons, List.map_nil, hx]; exact buildSlice_copy c hc w) (hK _ _ (new_cells _ _ _) (Grow.alloc _ _))
theorem info3 : (Try.prog.info? 3).map (fun i => (i.zero, i.size, i.bytes)) = some (some (.int .i64 0), 1, 8) := by kernel_rfl
noncomputable def copyK : EK Cp where
  vv := cvv
  ok := fun c => c.2.length = 256
  inj := fun a b h => by unfold cvv at h; simp only [Value.agg.injEq] at h; exact ccell_inj (by simpa using h)
/-- 'm[k]' of a map of copies -/
theorem wpList_look_copy {w : World} {ops : Array Oper} {rest : List Oper} {o : Oper} {a : Act} {Q : Exit → Act → World → Prop} (hg : o.guard = none) (m x : Operand) (hop : o.op = Op.lookup 80 m x false)
    (b n : Nat) (D : DataW Value) (f : Int → Option Cp) (hm : a.eval m = .map (some b)) (hown : w.ownsMap Try.prog 3 copyK.elem b n D) (hf : GMap copyK D f) (i : Int) (hx : a.eval x = .int .i64 i) (hi : IntOk i) (c : Cp) (hc : (f i).getD zeroC = c)
    (hK : wpList Try.prog ops Q rest (a.put o.dst (.agg (ccell c).toArray)) w) : wpList Try.prog ops Q (o :: rest) a w := by
  subst hc
  exact wpList_look_g hg m x _ hop 3 35 keyInt Try.underlying80 zeroC (zero40 w) zeroC_ok b n D f hm hown hf i hx (keyOf_ik hi) hK
theorem wpList_look_copy_ok {w : World} {ops : Array Oper} {rest : List Oper} {o : Oper} {a : Act} {Q : Exit → Act → World → Prop} (hg : o.guard = none) (m x : Operand) (hop : o.op = Op.lookup 80 m x true)
    (b n : Nat) (D : DataW Value) (f : Int → Option Cp) (hm : a.eval m = .map (some b)) (hown : w.ownsMap Try.prog 3 copyK.elem b n D) (hf : GMap copyK D f) (i : Int) (hx : a.eval x = .int .i64 i) (hi : IntOk i) (c : Cp) (hc : (f i).getD zeroC = c) (t : Bool) (ht : (f i).isSome = t)
    (hK : wpList Try.prog ops Q rest (a.put o.dst (.tuple #[.agg (ccell c).toArray, .bool t])) w) : wpList Try.prog ops Q (o :: rest) a w := by
  subst hc ht
  exact wpList_look_g_ok hg m x _ hop 3 35 keyInt Try.underlying80 zeroC (zero40 w) zeroC_ok b n D f hm hown hf i hx (keyOf_ik hi) hK
/-- 'make' of an empty row with room -/
theorem wpList_make_row {P : Program} {ops : Array Oper} {rest : List Oper} {o : Oper} {a : Act} {w : World} {Q : Exit → Act → World → Prop} (hgd : o.guard = none) (t : TypeId) (x y : Operand) (hop : o.op = .makeSlice t x y)
    (e : TypeId) (i : TypeInfo) (z : Value) (size bytes : Nat) (ht : P.underlying t = some (.slice e)) (hi : P.info? e = some i) (hz : i.zero = some z) (hsize : i.size = size) (hby : i.bytes = bytes)
    (c : Nat) (hx : a.eval x = .int .i64 0) (hy : a.eval y = .int .i64 (c : Int)) (hc : c ≤ 1000000) (hbytes : bytes ≤ 1000000)
    (hT : ∀ w', Row w' e size (.slice (some ⟨w.heap.size, 0, none⟩) 0 c) [] → Grow w w' → wpList P ops Q rest (a.put o.dst (.slice (some ⟨w.heap.size, 0, none⟩) 0 c)) w') : wpList P ops Q (o :: rest) a w := by
  refine wpList_plain hgd fun K' hK' => ?_
  obtain ⟨w', hr, h1, h2⟩ := run_make_own (P := P) w 0 t e i z size ht hi hz hsize .i64 .i64 c (by rw [hby]; exact Nat.le_trans (Nat.mul_le_mul hbytes hc) (by omega)) (by unfold maxLen; omega) (Nat.zero_le _)
  unfold Oper.wp
  have hrun : (execOp a.eval o).run P w = .ok (.value (.slice (some ⟨w.heap.size, 0, none⟩) 0 c)) w' := by
    unfold execOp
    simp only [hop, hx, hy, Sem.run_bind, Sem.run_pure, Result.andThen_ok, hr]
  rw [hrun]
  exact hK' _ _ (hT w' ⟨by simp, by simpa using h1⟩ ((Touch.grown (S := []) h2 (by simp)).below (Nat.le_refl _) (by simp)))
theorem IRow.cell {w : World} {g n cap : Nat} {zs : List Int} (h : IRow w (.slice (some ⟨g, 0, none⟩) n cap) zs) {k : Nat} {z : Int} (hk : zs[k]? = some z) : w.cell? ⟨g, k, none⟩ = some (.int .i64 z) := by
  have := Row.range h (i := k) (c := icell z) (by rw [List.getElem?_map, hk]; rfl) 0 _ rfl
  simpa using this

#print axioms built_copy
end Go.Proofs.Ytokehhegomiciaa
