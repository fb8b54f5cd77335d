/- Rows of copies, numbers and blocks: what the texts of this seat share (taken out of chapter 17's). -/
import Derived.Test.YtieknecbheeekaaDoorBlk
import Derived.Laws.MakeOwn
import Derived.Laws.AppendOwnNone
import Derived.ChangeKeysEq
import Derived.Laws.StructEq
import Derived.ArgAppend
import Derived.Maps.OwnSet
import Derived.Deep.CutBlock
set_option linter.unusedVariables false
set_option linter.unusedSimpArgs false
namespace Go.Proofs.YtieknecbheeekaaDoor
open Go.RowKit Go.Maps

def icell (z : Int) : List Value := [.int .i64 z]
/-- a row of integers -/
def IRow (w : World) (v : Value) (zs : List Int) : Prop := Row w 3 1 v (zs.map icell)
def IntOk (i : Int) : Prop := -9223372036854775808 ≤ i ∧ i ≤ 9223372036854775807
abbrev Cp := Int × Blk
def ccell (c : Cp) : List Value := .int .i64 c.1 :: bc c.2
theorem ccell_length {c : Cp} (h : c.2.length = 256) : (ccell c).length = 257 := by unfold ccell; rw [List.length_cons, bc_length, h]
def zeroC : Cp := (0, zeroB)
theorem zeroC_ok : zeroC.2.length = 256 := by have := zero_size; rw [List.size_toArray, bc_length] at this; exact this
theorem info40 : (Tryd.prog.info? 72).map (fun i => (i.zero, i.size, i.bytes)) = some (some (.agg (ccell zeroC).toArray), 257, 264) := by kernel_rfl
theorem info40b : (Tryd.prog.info? 72).map (fun i => (i.zero, i.size)) = some (some (.agg (ccell zeroC).toArray), 257) := by kernel_rfl
theorem zero40 (w : World) : (zeroValue 72).run Tryd.prog w = .ok (.agg (ccell zeroC).toArray) w := (zero_of_info info40b).1 w
theorem size40 : (Tryd.prog.info? 72).map (·.size) = some 257 := (zero_of_info info40b).2
theorem csize {c : Cp} (h : c.2.length = 256) : (Tryd.prog.info? 72).map (·.size) = some (ccell c).toArray.size := by rw [List.size_toArray, ccell_length h]; exact size40
theorem csizeL {c : Cp} (h : c.2.length = 256) : (Tryd.prog.info? 72).map (·.size) = some (ccell c).length := by rw [ccell_length h]; exact size40
theorem zsize {c : Cp} (h : c.2.length = 256) : (ccell zeroC).toArray.size = (ccell c).toArray.size := by rw [List.size_toArray, List.size_toArray, ccell_length zeroC_ok, ccell_length h]
theorem setMany_all (xs vs : List Value) (h : xs.length = vs.length) : setMany xs 0 vs = vs := by
  apply List.ext_getElem?
  intro k
  rw [setMany_get _ _ _ _ (by omega)]
  split
  · simp
  · rename_i hk
    rw [List.getElem?_eq_none (by omega), List.getElem?_eq_none (by omega)]
theorem foldSet_toList : ∀ (vs : List Value) (k off : Nat) (cells : Array Value), ((vs.zipIdx k).foldl (fun cs (p : Value × Nat) => cs.setIfInBounds (off + p.2) p.1) cells).toList = setMany cells.toList (off + k) vs := by
  intro vs
  induction vs with
  | nil => intro k off cells; rfl
  | cons v r ih =>
    intro k off cells
    rw [List.zipIdx_cons, List.foldl_cons, ih, setMany, Array.toList_setIfInBounds, Nat.add_assoc]
theorem foldSet (vs : Array Value) (off : Nat) (cells : Array Value) : vs.zipIdx.foldl (fun cs (p : Value × Nat) => cs.setIfInBounds (off + p.2) p.1) cells = (setMany cells.toList off vs.toList).toArray := by
  rw [← Array.foldl_toList]
  have := foldSet_toList vs.toList 0 off cells
  rw [Nat.add_zero] at this
  rw [← this]
  simp
theorem fill_cons {place : Nat → Option (Nat × Nat)} {cells : Array Value} {i off size : Nat} {v : Value} {rest : List (Nat × Value)} (hp : place i = some (off, size)) (h1 : v.cells.size = size) (h2 : off + size ≤ cells.size) :
    Instr.fill place cells ((i, v) :: rest) = Instr.fill place (setMany cells.toList off v.cells.toList).toArray rest := by
  rw [Instr.fill, hp]
  dsimp only
  rw [if_neg (by rw [h1]; simp; omega), foldSet]
def CRow (w : World) (v : Value) (cs : List Cp) : Prop := Row w 72 257 v (cs.map ccell)
theorem CRow.grow {w w' : World} {v : Value} {cs : List Cp} (h : CRow w v cs) (hg : Grow w w') : CRow w' v cs := Row.kept h (Touch.of_below (S := []) hg) (by simp)
theorem CRow.open_ {w : World} {v : Value} {cs : List Cp} (h : CRow w v cs) (hl : 0 < cs.length) : ∃ g cap, v = .slice (some ⟨g, 0, none⟩) cs.length cap ∧ g < w.heap.size := by
  obtain ⟨g, cap, hv, hg, _⟩ := Row.open_ h (by rw [List.length_map]; exact hl)
  rw [List.length_map] at hv
  exact ⟨g, cap, hv, hg⟩
theorem CRow.range {w : World} {g n cap : Nat} {cs : List Cp} (h : CRow w (.slice (some ⟨g, 0, none⟩) n cap) cs) {k : Nat} {c : Cp} (hk : cs[k]? = some c) : w.rangeAt g (k * 257) (ccell c) := Row.range h (by rw [List.getElem?_map, hk]; rfl)
theorem wpList_buildSlice {P : Program} {ops : Array Oper} {rest : List Oper} {o : Oper} {a : Act} {w w' : World} {v : Value} {Q : Exit → Act → World → Prop} (hgd : o.guard = none) (t : TypeId) (len : Nat) (parts : Array (Nat × Operand)) (ho : o.op = .buildSlice t len parts)
    (hf : (Instr.buildSlice t len (parts.map fun (i, x) => (i, a.eval x))).run P w = .ok v w') (hK : wpList P ops Q rest (a.put o.dst v) w') : wpList P ops Q (o :: rest) a w := by
  refine wpList_plain hgd fun K' hK' => ?_
  unfold Oper.wp
  have hrun : (execOp a.eval o).run P w = .ok (.value v) w' := by
    unfold execOp
    simp only [ho, Sem.run_bind, hf, Result.andThen_ok, Sem.run_pure]
  rw [hrun]
  exact hK' _ _ hK
theorem IRow.len {w : World} {v : Value} {l : List Int} (h : IRow w v l) : ∃ a cap, v = .slice a l.length cap := by
  obtain ⟨a, cap, hv⟩ := Row.len h
  rw [List.length_map] at hv
  exact ⟨a, cap, hv⟩
theorem CRow.blk {w : World} {v : Value} {l : List Cp} (h : CRow w v l) {x : Cp} (hx : x ∈ l) : x.2.length = 256 := by
  have := h.1 _ (List.mem_map_of_mem hx)
  unfold ccell at this
  rw [List.length_cons, bc_length] at this
  omega
set_option maxRecDepth 100000 in
theorem CRow.at_ {w : World} {a : Option Addr} {n cap : Nat} {cs : List Cp} (h : CRow w (.slice a n cap) cs) {k : Nat} {c : Cp} (hk : cs[k]? = some c) : ∃ g, a = some ⟨g, 0, none⟩ ∧ g < w.heap.size ∧ w.rangeAt g (k * 257) (ccell c) ∧ w.cell? ⟨g, k * 257, none⟩ = some (.int .i64 c.1) ∧ c.2.length = 256 := by
  obtain ⟨g, cap', hv, hg⟩ := h.open_ (by have := (List.getElem?_eq_some_iff.1 hk).1; omega)
  have hb := h.blk (List.mem_of_getElem? hk)
  cases hv
  have h0 := h.range hk 0 (.int .i64 c.1) rfl
  exact ⟨g, rfl, hg, h.range hk, h0, hb⟩
theorem info3 : (Tryd.prog.info? 3).map (fun i => (i.zero, i.size, i.bytes)) = some (some (.int .i64 0), 1, 8) := by kernel_rfl
/-- 'make' of an empty row with room -/
theorem wpList_make_row {P : Program} {ops : Array Oper} {rest : List Oper} {o : Oper} {a : Act} {w : World} {Q : Exit → Act → World → Prop} (hgd : o.guard = none) (t : TypeId) (x y : Operand) (hop : o.op = .makeSlice t x y)
    (e : TypeId) (i : TypeInfo) (z : Value) (size bytes : Nat) (ht : P.underlying t = some (.slice e)) (hi : P.info? e = some i) (hz : i.zero = some z) (hsize : i.size = size) (hby : i.bytes = bytes)
    (c : Nat) (hx : a.eval x = .int .i64 0) (hy : a.eval y = .int .i64 (c : Int)) (hc : c ≤ 1000000) (hbytes : bytes ≤ 1000000)
    (hT : ∀ w', Row w' e size (.slice (some ⟨w.heap.size, 0, none⟩) 0 c) [] → Grow w w' → wpList P ops Q rest (a.put o.dst (.slice (some ⟨w.heap.size, 0, none⟩) 0 c)) w') : wpList P ops Q (o :: rest) a w := by
  refine wpList_plain hgd fun K' hK' => ?_
  obtain ⟨w', hr, h1, h2⟩ := run_make_own (P := P) w 0 t e i z size ht hi hz hsize .i64 .i64 c (by rw [hby]; exact Nat.le_trans (Nat.mul_le_mul hbytes hc) (by omega)) (by unfold maxLen; omega) (Nat.zero_le _)
  unfold Oper.wp
  have hrun : (execOp a.eval o).run P w = .ok (.value (.slice (some ⟨w.heap.size, 0, none⟩) 0 c)) w' := by
    unfold execOp
    simp only [hop, hx, hy, Sem.run_bind, Sem.run_pure, Result.andThen_ok, hr]
  rw [hrun]
  exact hK' _ _ (hT w' ⟨by simp, by simpa using h1⟩ ((Touch.grown (S := []) h2 (by simp)).below (Nat.le_refl _) (by simp)))
/-- what is appended: elements that can be read there -/
def Src (w : World) (sz : Nat) (v : Value) (l : List (List Value)) : Prop := (∀ c ∈ l, c.length = sz ∧ ∀ u ∈ c, u.oneCell' = true) ∧ ((v = .slice none 0 0 ∧ l = []) ∨ ∃ ad c, v = .slice (some ad) l.length c ∧ ∀ j u, l.flatten[j]? = some u → w.cell? (ad.add j) = some u)
theorem Row.src {w : World} {e sz : Nat} {v : Value} {l : List (List Value)} (h : Row w e sz v l) (h1 : ∀ c ∈ l, ∀ u ∈ c, u.oneCell' = true) : Src w sz v l := by
  refine ⟨fun c hc => ⟨h.1 c hc, h1 c hc⟩, ?_⟩
  rcases h.2.2 with ⟨hv, hl⟩ | ⟨g, cap, cur, hv, _⟩
  · exact .inl ⟨hv, List.eq_nil_of_length_eq_zero hl⟩
  · exact .inr ⟨⟨g, 0, none⟩, cap, hv, fun j u hj => h.2.cells (g := g) (by rw [hv]; rfl) j u hj⟩
theorem Src.grow {w w' : World} {sz : Nat} {v : Value} {l : List (List Value)} (h : Src w sz v l) (hg : Grow w w') : Src w' sz v l := by
  refine ⟨h.1, ?_⟩
  rcases h.2 with h2 | ⟨ad, c, hv, hc⟩
  · exact .inl h2
  · refine .inr ⟨ad, c, hv, fun j u hj => ?_⟩
    have h3 := hc j u hj
    have h4 := World.block_lt_of_cell? w _ h3
    exact (Below.cell hg h4).trans h3
/-- append of a row, in a walk -/
theorem wpList_append_rows {P : Program} {ops : Array Oper} {rest : List Oper} {o : Oper} {a : Act} {w : World} {Q : Exit → Act → World → Prop} (hgd : o.guard = none) (s x : Operand) (t : TypeId)
    (ho : o.op = .call { callee := .builtin .append, args := #[s, x], argTypes := #[t, t] })
    (e : TypeId) (i : TypeInfo) (z : Value) (size bytes : Nat) (ht : P.underlying t = some (.slice e)) (hi : P.info? e = some i) (hz : i.zero = some z) (hsize : i.size = size) (hby : i.bytes = bytes) (hzs : z.cells.size = size) (hsz : 0 < size)
    (v vs : Value) (l l' : List (List Value)) (hs : a.eval s = v) (hrow : Row w e size v l) (hx : a.eval x = vs) (hsrc : Src w size vs l')
    (hlen : l.length + l'.length ≤ 1000000) (hbytes : bytes ≤ 1000000) (hT : ∀ v' w', AppAtE e size w v (l ++ l') v' w' → Touch (ownL v) w w' → wpList P ops Q rest (a.put o.dst v') w') : wpList P ops Q (o :: rest) a w := by
  rcases hsrc.2 with ⟨rfl, rfl⟩ | ⟨ad, c, rfl, hcells⟩
  · refine wpList_append_own_none hgd s x t ho 0 e i size ht hi v l.length l.flatten hs hrow.2 hx (hT v w ⟨by rw [List.append_nil]; exact hrow, .inl rfl⟩ (Touch.refl _ _))
  · refine wpList_plain hgd fun K' hK' => ?_
    have hl' : l'.flatten.length = l'.length * size := flatten_length size l' (fun c hc => (hsrc.1 c hc).1)
    obtain ⟨v', w', hr, h2, h3, h4, h5⟩ := run_append_own_at (P := P) w 0 t o.type e i z size bytes ht hi hz hsize hby hzs hsz v l.length l.flatten hrow.2 ad l'.length c l'.flatten hl' hcells (fun u hu => by obtain ⟨d, hd, hud⟩ := List.mem_flatten.1 hu; exact (hsrc.1 d hd).2 u hud) (by unfold maxLen; omega)
      (Nat.le_trans (Nat.mul_le_mul hlen hbytes) (by omega)) (Nat.zero_le _)
    unfold Oper.wp
    have hrun : (execOp a.eval o).run P w = .ok (.value v') w' := by
      unfold execOp
      simp only [ho, resolve, invoke, builtin, Sem.run_bind, Sem.run_pure, Result.andThen_ok, List.map_toArray, List.map_cons, List.map_nil, hs, hx, hr]
    rw [hrun]
    refine hK' _ _ (hT v' w' ⟨⟨?_, ?_⟩, ?_⟩ (Touch.grown h3 (fun k e => ownL_mem.2 e)))
    · intro d hd
      rcases List.mem_append.1 hd with h | h
      · exact hrow.1 d h
      · exact (hsrc.1 d h).1
    · rw [List.flatten_append, List.length_append]
      exact h2
    · rcases h5 with h | h
      · exact .inl h
      · exact .inr ⟨_, h, Nat.le_refl _⟩
theorem zeroB_ok : zeroB.length = 256 := List.length_replicate
theorem info32b : (Tryd.prog.info? 34).map (fun i => (i.zero, i.size, i.bytes)) = some (some (.agg (bc zeroB).toArray), 256, 256) := by kernel_rfl
theorem plain5 : Tryd.prog.plainKey 5 = true := by kernel_rfl
theorem cells5 : Tryd.prog.cellsOf 5 = 1 := by kernel_rfl
theorem info5 : (Tryd.prog.info? 5).map (fun i => (i.zero, i.size, i.bytes)) = some (some (.int .u8 0), 1, 1) := by kernel_rfl
theorem eqItems_any (x y : Blk) (d : Nat) (w : World) : ∀ is : List Nat, (∀ i ∈ is, i < x.length ∧ i < y.length) → ∃ b, (Op.eqItems (d + 1) 5 (Tryd.prog.cellsOf 5) (bc x).toArray (bc y).toArray is).run Tryd.prog w = .ok b w ∧ (b = true ↔ ∀ i ∈ is, x[i]? = y[i]?) := by
  intro is
  induction is with
  | nil => intro _; exact ⟨true, by simp [Op.eqItems], by simp⟩
  | cons i is ih =>
    intro h
    have hi := h i (by simp)
    have hgx : (bc x).toArray[i * Tryd.prog.cellsOf 5]? = some (.int .u8 ((x[i]'hi.1 : Nat) : Int)) := by
      rw [cells5, Nat.mul_one]; unfold bc; simp [hi.1]
    have hgy : (bc y).toArray[i * Tryd.prog.cellsOf 5]? = some (.int .u8 ((y[i]'hi.2 : Nat) : Int)) := by
      rw [cells5, Nat.mul_one]; unfold bc; simp [hi.2]
    have hp := run_part_plain (P := Tryd.prog) w plain5 hgx
    have hq := run_part_plain (P := Tryd.prog) w plain5 hgy
    obtain ⟨b, hb, hb2⟩ := ih (fun j hj => h j (by simp [hj]))
    simp only [Op.eqItems, Sem.run_bind, hp, hq, Result.andThen_ok, run_equalIn_int w d 5 .u8 .u8 _ _ Tryd.underlying5]
    by_cases e : x[i]'hi.1 = y[i]'hi.2
    · refine ⟨b, ?_, ?_⟩
      · rw [show (((x[i]'hi.1 : Nat) : Int) == ((y[i]'hi.2 : Nat) : Int)) = true by rw [e]; simp]
        simpa using hb
      · rw [hb2]
        simp only [List.mem_cons, forall_eq_or_imp]
        exact ⟨fun h2 => ⟨by rw [List.getElem?_eq_getElem hi.1, List.getElem?_eq_getElem hi.2, e], h2⟩, fun h2 => h2.2⟩
    · refine ⟨false, ?_, ?_⟩
      · rw [show (((x[i]'hi.1 : Nat) : Int) == ((y[i]'hi.2 : Nat) : Int)) = false by simp; omega]
        simp
      · simp only [Bool.false_eq_true, List.mem_cons, forall_eq_or_imp, false_iff, not_and]
        intro h2
        rw [List.getElem?_eq_getElem hi.1, List.getElem?_eq_getElem hi.2] at h2
        exact absurd (Option.some.inj h2) e
theorem equalB (x y : Blk) (hx : x.length = 256) (hy : y.length = 256) (d : Nat) (w : World) : (Op.equalIn (d + 2) 34 (.agg (bc x).toArray) (.agg (bc y).toArray)).run Tryd.prog w = .ok (decide (x = y)) w := by
  obtain ⟨i0, hi, _, _, _⟩ := info_parts info5
  rw [run_equalIn_array w (d + 1) _ _ Tryd.underlying34 hi]
  obtain ⟨b, hb, hb2⟩ := eqItems_any x y d w (List.range 256) (fun i hi => by have := List.mem_range.1 hi; omega)
  have he : b = decide (x = y) := by
    rw [Bool.eq_iff_iff, hb2, decide_eq_true_iff]
    constructor
    · intro h
      apply List.ext_getElem?
      intro i
      by_cases hi : i < 256
      · exact h i (List.mem_range.2 hi)
      · rw [List.getElem?_eq_none (by omega), List.getElem?_eq_none (by omega)]
    · intro h i _; rw [h]
  rw [← he]; exact hb
theorem guardTB : Tryd.prog.eqGuardType Tryd.prog.depth 34 = false := by kernel_rfl
theorem neqBlk (x y : Blk) (hx : x.length = 256) (hy : y.length = 256) (w : World) : (binOp .neq 34 (.agg (bc x).toArray) (.agg (bc y).toArray)).run Tryd.prog w = .ok (.bool (!decide (x = y))) w := by
  rw [run_neq_struct, equalB x y hx hy 9998]; rfl
theorem gB (op : BinOp) (x y : Operand) (p q : Array Value) (w : World) : (eqGuard op 34 x y (.agg p) (.agg q)).run Tryd.prog w = .ok () w := run_eqGuard_agg w op _ x y p q guardTB
def KindAt (w : World) (g : Nat) (e : TypeId) : Prop := ∃ C, w.heap[g]? = some (.cells C e (0, 0))
/-- a slice whose elements are these, each of sz cells; it may begin anywhere in its block, and what is behind it up to its capacity may be written -/
def GRow (w : World) (e sz : Nat) (v : Value) (l : List (List Value)) : Prop :=
  (∀ c ∈ l, c.length = sz) ∧ ((v = .slice none 0 0 ∧ l = []) ∨ ∃ g o cap, v = .slice (some ⟨g, o, none⟩) l.length cap ∧ l.length ≤ cap ∧ cap ≤ maxLen ∧ KindAt w g e ∧ w.rangeAt g o l.flatten ∧ w.there g o (cap * sz))
theorem KindAt.lt {w : World} {g : Nat} {e : TypeId} (h : KindAt w g e) : g < w.heap.size := by obtain ⟨C, h⟩ := h; exact (Array.getElem?_eq_some_iff.1 h).1
theorem KindAt.kept {w w' : World} {g : Nat} {e : TypeId} (h : KindAt w g e) {T : List Nat} (ht : Touch T w w') (hn : g ∉ T) : KindAt w' g e := by
  have hl := h.lt
  obtain ⟨C, h⟩ := h
  exact ⟨C, (ht.block g hl hn).trans h⟩
theorem KindAt.setCell {w : World} {g : Nat} {e : TypeId} (h : KindAt w g e) (b o : Nat) (v : Value) : KindAt (w.setCell ⟨b, o, none⟩ v) g e := by
  obtain ⟨C, h⟩ := h
  by_cases hg : b = g
  · subst hg
    exact ⟨_, heap_set h o v⟩
  · exact ⟨C, (Below.heap_setCell w ⟨b, o, none⟩ v g (fun e => hg e.symm)).trans h⟩
theorem KindAt.setCells {g : Nat} {e : TypeId} : ∀ (vs : List Value) (b o : Nat) (w : World), KindAt w g e → KindAt (w.setCells b o vs) g e := by
  intro vs
  induction vs with
  | nil => intro b o w h; exact h
  | cons v r ih => intro b o w h; rw [World.setCells]; exact ih _ _ _ (h.setCell _ _ _)
theorem there_touch {w w' : World} {g o n : Nat} {S : List Nat} (h : w.there g o n) (ht : Touch S w w') (hg : g < w.heap.size) (hn : g ∉ S) : w'.there g o n :=
  fun j hj => ⟨by rw [ht.cell (a := ⟨g, o + j, none⟩) hg hn]; exact (h j hj).1, by rw [ht.frozen (a := ⟨g, o + j, none⟩) hg hn]; exact (h j hj).2⟩
theorem GRow.kept {w w' : World} {e sz : Nat} {v : Value} {l : List (List Value)} (h : GRow w e sz v l) {T : List Nat} (ht : Touch T w w') (hn : ∀ g, v.ownBlock = some g → g ∉ T) : GRow w' e sz v l := by
  refine ⟨h.1, ?_⟩
  rcases h.2 with h1 | ⟨g, o, cap, rfl, h2, h3, h4, h5, h6⟩
  · exact .inl h1
  · exact .inr ⟨g, o, cap, rfl, h2, h3, h4.kept ht (hn g rfl), range_touch h5 ht h4.lt (hn g rfl), there_touch h6 ht h4.lt (hn g rfl)⟩
theorem GRow.len {w : World} {e sz : Nat} {v : Value} {l : List (List Value)} (h : GRow w e sz v l) : ∃ a cap, v = .slice a l.length cap := by
  rcases h.2 with ⟨rfl, rfl⟩ | ⟨g', o, cap, rfl, _⟩
  · exact ⟨_, _, rfl⟩
  · exact ⟨_, _, rfl⟩
theorem rangeAt_flat {w : World} {g o sz : Nat} {l : List (List Value)} (h1 : ∀ c ∈ l, c.length = sz) (h : w.rangeAt g o l.flatten) {i : Nat} {c : List Value} (hi : l[i]? = some c) : w.rangeAt g (o + i * sz) c := by
  intro j v hv
  have hc := h1 c (List.mem_of_getElem? hi)
  have hj : j < sz := by rw [← hc]; exact (List.getElem?_eq_some_iff.1 hv).1
  have := h (i * sz + j) v ((flatten_get sz l i j c h1 hi hj).trans hv)
  rw [Nat.add_assoc]
  exact this
/-- an element of a row -/
theorem GRow.at_ {w : World} {e sz : Nat} {a : Option Addr} {n cap : Nat} {l : List (List Value)} (h : GRow w e sz (.slice a n cap) l) {i : Nat} {c : List Value} (hi : l[i]? = some c) : ∃ g o, a = some ⟨g, o, none⟩ ∧ KindAt w g e ∧ w.rangeAt g (o + i * sz) c := by
  rcases h.2 with ⟨_, rfl⟩ | ⟨g, o, cap', hv, h2, h3, h4, h5, h6⟩
  · cases hi
  · cases hv; exact ⟨g, o, rfl, h4, rangeAt_flat h.1 h5 hi⟩
theorem Row.g {w : World} {e sz : Nat} {v : Value} {l : List (List Value)} (h : Row w e sz v l) : GRow w e sz v l := by
  refine ⟨h.1, ?_⟩
  have hf := flatten_length sz l h.1
  rcases h.2.2 with ⟨h1, h2⟩ | ⟨g, cap, cur, hv, _, hh, h3, h4, h5, h6⟩
  · exact .inl ⟨h1, List.eq_nil_of_length_eq_zero h2⟩
  · refine .inr ⟨g, 0, cap, hv, h3, h4, ⟨cur, hh⟩, ?_, ?_⟩
    · intro j v hj
      rw [Nat.zero_add, cell_at hh]
      have hlt := (List.getElem?_eq_some_iff.1 hj).1
      rw [← h6] at hj
      rw [List.getElem?_take] at hj
      split at hj
      · simpa using hj
      · cases hj
    · intro j hj
      rw [Nat.zero_add, cell_at hh, frozen_at hh]
      refine ⟨?_, rfl⟩
      rw [Array.getElem?_eq_getElem (by omega)]
      rfl
theorem KindAt.grow {w w' : World} {g : Nat} {e : TypeId} (h : KindAt w g e) (hg : Grow w w') : KindAt w' g e := h.kept (T := []) (Touch.of_below hg) (by simp)
theorem GRow.grow {w w' : World} {e sz : Nat} {v : Value} {l : List (List Value)} (h : GRow w e sz v l) (hg : Grow w w') : GRow w' e sz v l := h.kept (T := []) (Touch.of_below hg) (by simp)
theorem rangeAt_append {w : World} {g o : Nat} {a b : List Value} (h : w.rangeAt g o a) (h2 : w.rangeAt g (o + a.length) b) : w.rangeAt g o (a ++ b) := by
  intro j v hj
  by_cases hl : j < a.length
  · rw [List.getElem?_append_left hl] at hj; exact h j v hj
  · rw [List.getElem?_append_right (by omega)] at hj
    have := h2 (j - a.length) v hj
    rwa [show o + a.length + (j - a.length) = o + j by omega] at this
/-- append of one element onto a row that may begin anywhere -/
theorem run_append_g {P : Program} (w : World) (t ty e : TypeId) (i : TypeInfo) (z : Value) (size bytes : Nat) (ht : P.underlying t = some (.slice e)) (hi : P.info? e = some i) (hz : i.zero = some z) (hsize : i.size = size) (hby : i.bytes = bytes) (hzs : z.cells.size = size) (hsz : 0 < size)
    (v : Value) (l : List (List Value)) (hrow : GRow w e size v l) (ad : Addr) (c : Nat) (news : List Value) (hl : news.length = size) (hnews : ∀ j u, news[j]? = some u → w.cell? (ad.add j) = some u) (h1 : ∀ u ∈ news, u.oneCell' = true)
    (hlen : l.length + 1 ≤ 1000000) (hbytes : bytes ≤ 1000000) :
    ∃ v' w', (Builtin.append_ #[t, t] ty #[v, .slice (some ad) 1 c]).run P w = .ok v' w' ∧ GRow w' e size v' (l ++ [news]) ∧ Touch (ownL v) w w' ∧ (v'.ownBlock = v.ownBlock ∨ ∃ g, v'.ownBlock = some g ∧ w.heap.size ≤ g) := by
  have hbb : (l.length + 1) * bytes ≤ 140737488355328 := Nat.le_trans (Nat.mul_le_mul hlen hbytes) (by omega)
  have hall : ∀ d ∈ l ++ [news], d.length = size := by
    intro d hd
    rcases List.mem_append.1 hd with h | h
    · exact hrow.1 d h
    · rw [List.mem_singleton.1 h]; exact hl
  have hfl := flatten_length size l hrow.1
  rcases hrow.2 with ⟨rfl, rfl⟩ | ⟨g, o, cap, rfl, h2, h3, h4, h5, h6⟩
  · obtain ⟨v', w', hr, r2, r3, r4, r5⟩ := run_append_own_at (P := P) w 0 t ty e i z size bytes ht hi hz hsize hby hzs hsz (.slice none 0 0) 0 [] (World.ownsRow_nil w 0 e size) ad 1 c news (by omega) hnews h1 (by unfold maxLen; omega) (by simpa using hbb) (Nat.zero_le _)
    refine ⟨v', w', hr, Row.g ⟨hall, ?_⟩, Touch.grown r3 (fun k e => ownL_mem.2 e), r5.imp id (fun h => ⟨_, h, Nat.le_refl _⟩)⟩
    simpa using r2
  · by_cases hroom : l.length + 1 ≤ cap
    · subst hsize
      have hle : l.length * i.size + news.length ≤ cap * i.size := by
        have := Nat.mul_le_mul_right i.size hroom
        rw [Nat.add_mul] at this
        omega
      have hrun := run_append_room_cells (P := P) w t ty e i ht hi g o l.length cap ad 1 c news (by omega) hnews h1 hroom
        (fun j hj => by have := (h6 (l.length * i.size + j) (by omega)).1; rwa [← Nat.add_assoc] at this)
        (fun j hj => by have := (h6 (l.length * i.size + j) (by omega)).2; rwa [← Nat.add_assoc] at this)
      have ht2 : w.there g (o + l.length * i.size) news.length := fun j hj => by have := h6 (l.length * i.size + j) (by omega); rwa [← Nat.add_assoc] at this
      refine ⟨_, _, hrun, ⟨hall, .inr ⟨g, o, cap, by rw [List.length_append]; rfl, by rw [List.length_append]; exact hroom, h3, KindAt.setCells _ _ _ _ h4, ?_, World.there_setCells h6 _ _ _⟩⟩, touch_setCells (by rw [ownL_mem]; rfl) _ _ _, .inl rfl⟩
      rw [List.flatten_append]
      refine rangeAt_append ?_ ?_
      · intro j v hj
        have hlt := (List.getElem?_eq_some_iff.1 hj).1
        rw [World.cell?_setCells_out _ _ _ _ _ (fun _ _ => .inl (by simp only; omega))]
        exact h5 j v hj
      · rw [hfl]
        have := World.rangeAt_setCells_same w g (o + l.length * i.size) news ht2
        simpa using this
    · obtain ⟨v', w', hr, r1, r2⟩ := run_append_arg_grows (P := P) w t ty e i z size bytes ht hi hz hsize hby hzs hsz ⟨g, o, none⟩ l.length cap l.flatten hfl (fun j u hu => by rw [Addr.add_mid]; exact h5 j u hu) ad 1 c news (by omega) hnews (by omega) (by unfold maxLen; omega) hbb
      refine ⟨v', w', hr, Row.g ⟨hall, ?_⟩, Touch.grown r2 (fun k e => by cases e), ?_⟩
      · have h0 : w'.ownsRow 0 e size v' (l.length + 1) (l.flatten ++ news) := ⟨r1.1, by
          rcases r1.2 with h | ⟨g', cap', cur, a, b, c⟩
          · exact .inl h
          · exact .inr ⟨g', cap', cur, a, Nat.zero_le _, c⟩⟩
        simpa using h0
      · rcases r1.2 with ⟨_, h⟩ | ⟨g', cap', cur, rfl, hb, hh, _⟩
        · omega
        · exact .inr ⟨g', rfl, hb⟩
/-- append of one element, in a walk -/
theorem wpList_append_g {P : Program} {ops : Array Oper} {rest : List Oper} {o : Oper} {a : Act} {w : World} {Q : Exit → Act → World → Prop} (hgd : o.guard = none) (s x : Operand) (t : TypeId)
    (ho : o.op = .call { callee := .builtin .append, args := #[s, x], argTypes := #[t, t] })
    (e : TypeId) (i : TypeInfo) (z : Value) (size bytes : Nat) (ht : P.underlying t = some (.slice e)) (hi : P.info? e = some i) (hz : i.zero = some z) (hsize : i.size = size) (hby : i.bytes = bytes) (hzs : z.cells.size = size) (hsz : 0 < size)
    (v : Value) (l : List (List Value)) (hs : a.eval s = v) (hrow : GRow w e size v l) (ad : Addr) (c : Nat) (news : List Value) (hx : a.eval x = .slice (some ad) 1 c) (hl : news.length = size) (hnews : ∀ j u, news[j]? = some u → w.cell? (ad.add j) = some u) (h1 : ∀ u ∈ news, u.oneCell' = true)
    (hlen : l.length + 1 ≤ 1000000) (hbytes : bytes ≤ 1000000) (hT : ∀ v' w', GRow w' e size v' (l ++ [news]) → (v'.ownBlock = v.ownBlock ∨ ∃ g, v'.ownBlock = some g ∧ w.heap.size ≤ g) → Touch (ownL v) w w' → wpList P ops Q rest (a.put o.dst v') w') : wpList P ops Q (o :: rest) a w := by
  refine wpList_plain hgd fun K' hK' => ?_
  obtain ⟨v', w', hr, h2, h3, h4⟩ := run_append_g (P := P) w t o.type e i z size bytes ht hi hz hsize hby hzs hsz v l hrow ad c news hl hnews h1 hlen hbytes
  unfold Oper.wp
  have hrun : (execOp a.eval o).run P w = .ok (.value v') w' := by
    unfold execOp
    simp only [ho, resolve, invoke, builtin, Sem.run_bind, Sem.run_pure, Result.andThen_ok, List.map_toArray, List.map_cons, List.map_nil, hs, hx, hr]
  rw [hrun]
  exact hK' _ _ (hT v' w' h2 h4 h3)
def CpOk (c : Cp) : Prop := IntOk c.1 ∧ c.2.length = 256
/-- elements that lie one behind the other -/
def See (w : World) (sz : Nat) (v : Value) (l : List (List Value)) : Prop := ∃ a cap, v = .slice a l.length cap ∧ ∀ k c, l[k]? = some c → ∃ g o, a = some ⟨g, o, none⟩ ∧ g < w.heap.size ∧ w.rangeAt g (o + k * sz) c
theorem GRow.see {w : World} {e sz : Nat} {v : Value} {l : List (List Value)} (h : GRow w e sz v l) : See w sz v l := by
  obtain ⟨a, cap, rfl⟩ := h.len
  refine ⟨a, cap, rfl, fun k c hk => ?_⟩
  obtain ⟨g, o, rfl, hkd, hr⟩ := h.at_ hk
  exact ⟨g, o, rfl, hkd.lt, hr⟩
theorem Row.see {w : World} {e sz : Nat} {v : Value} {l : List (List Value)} (h : Row w e sz v l) : See w sz v l := (Row.g h).see
theorem See.grow {w w' : World} {sz : Nat} {v : Value} {l : List (List Value)} (h : See w sz v l) (hg : Grow w w') : See w' sz v l := by
  obtain ⟨a, cap, hv, hi⟩ := h
  refine ⟨a, cap, hv, fun k c hk => ?_⟩
  obtain ⟨g, o, ha, hl, hr⟩ := hi k c hk
  exact ⟨g, o, ha, Nat.lt_of_lt_of_le hl hg.size, fun j u hj => (hg.cell (p := ⟨g, o + k * sz + j, none⟩) hl).trans (hr j u hj)⟩
def CSee (w : World) (v : Value) (cs : List Cp) : Prop := See w 257 v (cs.map ccell) ∧ ∀ c ∈ cs, CpOk c
def ISee (w : World) (v : Value) (zs : List Int) : Prop := See w 1 v (zs.map icell) ∧ ∀ z ∈ zs, IntOk z
theorem CSee.grow {w w' : World} {v : Value} {cs : List Cp} (h : CSee w v cs) (hg : Grow w w') : CSee w' v cs := ⟨h.1.grow hg, h.2⟩
theorem ISee.grow {w w' : World} {v : Value} {cs : List Int} (h : ISee w v cs) (hg : Grow w w') : ISee w' v cs := ⟨h.1.grow hg, h.2⟩
theorem CSee.len {w : World} {v : Value} {cs : List Cp} (h : CSee w v cs) : ∃ a cap, v = .slice a cs.length cap := by
  obtain ⟨a, cap, hv, _⟩ := h.1
  exact ⟨a, cap, by rw [hv, List.length_map]⟩
theorem ISee.len {w : World} {v : Value} {cs : List Int} (h : ISee w v cs) : ∃ a cap, v = .slice a cs.length cap := by
  obtain ⟨a, cap, hv, _⟩ := h.1
  exact ⟨a, cap, by rw [hv, List.length_map]⟩
theorem CSee.at_ {w : World} {a : Option Addr} {n cap : Nat} {cs : List Cp} (h : CSee w (.slice a n cap) cs) {k : Nat} {c : Cp} (hk : cs[k]? = some c) : ∃ g o, a = some ⟨g, o, none⟩ ∧ g < w.heap.size ∧ w.rangeAt g (o + k * 257) (ccell c) ∧ w.cell? ⟨g, o + k * 257, none⟩ = some (.int .i64 c.1) ∧ CpOk c := by
  obtain ⟨a', cap', hv, hi⟩ := h.1
  obtain ⟨g, o, ha, hl, hr⟩ := hi k (ccell c) (by rw [List.getElem?_map, hk]; rfl)
  cases hv
  exact ⟨g, o, ha, hl, hr, hr 0 _ rfl, h.2 c (List.mem_of_getElem? hk)⟩
theorem ISee.at_ {w : World} {a : Option Addr} {n cap : Nat} {zs : List Int} (h : ISee w (.slice a n cap) zs) {k : Nat} {z : Int} (hk : zs[k]? = some z) : ∃ g o, a = some ⟨g, o, none⟩ ∧ g < w.heap.size ∧ w.cell? ⟨g, o + k, none⟩ = some (.int .i64 z) ∧ IntOk z := by
  obtain ⟨a', cap', hv, hi⟩ := h.1
  obtain ⟨g, o, ha, hl, hr⟩ := hi k (icell z) (by rw [List.getElem?_map, hk]; rfl)
  cases hv
  have h0 := hr 0 _ rfl
  rw [Nat.mul_one] at h0
  exact ⟨g, o, ha, hl, h0, h.2 z (List.mem_of_getElem? hk)⟩
theorem eqlBlk (x y : Blk) (hx : x.length = 256) (hy : y.length = 256) (w : World) : (binOp .eql 34 (.agg (bc x).toArray) (.agg (bc y).toArray)).run Tryd.prog w = .ok (.bool (decide (x = y))) w := by
  rw [run_eql_struct, equalB x y hx hy 9998]; rfl
set_option maxRecDepth 100000 in
theorem buildSlice_blk (x : Blk) (hx : x.length = 256) (w : World) : (Instr.buildSlice 57 1 #[(0, .agg (bc x).toArray)]).run Tryd.prog w = .ok (.slice (some ⟨w.heap.size, 0, none⟩) 1 1) (w.alloc (.cells (bc x).toArray 34)) := by
  obtain ⟨i0, hi, hz0, hz1, hz2⟩ := info_parts info32b
  have hl : (bc x).length = 256 := by rw [bc_length, hx]
  generalize bc x = c at *
  have hfill : Instr.fill (fun i => some (i * 256, 256)) ((Array.range 256).map ((bc zeroB).toArray[· % (bc zeroB).toArray.size]!)) [(0, .agg c.toArray)] = some c.toArray := by
    rw [fill_cons (off := 0 * 256) (size := 256) rfl (by show c.toArray.size = 256; rw [List.size_toArray, hl]) (by simp), Instr.fill]
    congr 2
    rw [Nat.zero_mul]
    exact setMany_all _ _ (by show _ = c.toArray.toList.length; simp [hl])
  unfold Instr.buildSlice
  simp only [Sem.run_bind, run_underlying Tryd.underlying57, Result.andThen_ok, sizeOf, typeInfo, hi, hz1, zeroValue, hz0]
  simp [hi, hz1, hz0]
  rw [show (Value.agg (bc zeroB).toArray).cells = (bc zeroB).toArray from rfl, hfill]
  simp [newRow, go_sem]
def BRow (w : World) (v : Value) (l : List Blk) : Prop := Row w 34 256 v (l.map bc)
theorem BRow.len {w : World} {v : Value} {l : List Blk} (h : BRow w v l) : ∃ a cap, v = .slice a l.length cap := by
  obtain ⟨a, cap, hv⟩ := Row.len h
  rw [List.length_map] at hv
  exact ⟨a, cap, hv⟩
theorem BRow.grow {w w' : World} {v : Value} {l : List Blk} (h : BRow w v l) (hg : Grow w w') : BRow w' v l := Row.kept h (Touch.of_below (S := []) hg) (by simp)
theorem BRow.blk {w : World} {v : Value} {l : List Blk} (h : BRow w v l) {x : Blk} (hx : x ∈ l) : x.length = 256 := by
  have := h.1 _ (List.mem_map_of_mem hx)
  rwa [bc_length] at this
theorem BRow.open_ {w : World} {v : Value} {l : List Blk} (h : BRow w v l) (hl : 0 < l.length) : ∃ g cap, v = .slice (some ⟨g, 0, none⟩) l.length cap ∧ g < w.heap.size := by
  obtain ⟨g, cap, hv, hg, _⟩ := Row.open_ h (by rw [List.length_map]; exact hl)
  rw [List.length_map] at hv
  exact ⟨g, cap, hv, hg⟩
theorem BRow.range {w : World} {g n cap : Nat} {l : List Blk} (h : BRow w (.slice (some ⟨g, 0, none⟩) n cap) l) {k : Nat} {x : Blk} (hk : l[k]? = some x) : w.rangeAt g (k * 256) (bc x) := Row.range h (by rw [List.getElem?_map, hk]; rfl)
theorem bsizeL {x : Blk} (hx : x.length = 256) : (Tryd.prog.info? 34).map (·.size) = some (bc x).length := by rw [bc_length, hx]; exact size32
theorem bsize {x : Blk} (hx : x.length = 256) : (Tryd.prog.info? 34).map (·.size) = some (bc x).toArray.size := by rw [List.size_toArray, bc_length, hx]; exact size32
/-- a row of blocks of one's own -/
structure GInv (w : World) (v : Value) (l : List Blk) (wr : World) : Prop where
  row : BRow wr v l
  lo : ∀ g, v.ownBlock = some g → w.heap.size ≤ g
  grow : Grow w wr
theorem GInv.later {W : World} {v : Value} {l : List Blk} {wr w' : World} (h : GInv W v l wr) (hg : Grow wr w') : GInv W v l w' := ⟨h.row.grow hg, h.lo, Grow.trans h.grow hg⟩
theorem BRow.stored {gd n cap : Nat} {l : List Blk} {wr : World} (h : BRow wr (.slice (some ⟨gd, 0, none⟩) n cap) l) {x : Blk} (hc : x.length = 256) {b : Nat} (hlt : b < l.length) : BRow (wr.setCells gd (b * 256) (bc x)) (.slice (some ⟨gd, 0, none⟩) n cap) (l.set b x) := by
  have h1 := Row.store h (i := b) (c := bc x) (by rw [bc_length, hc]) (by rw [List.length_map]; exact hlt)
  unfold BRow
  rw [List.map_set]
  exact h1
theorem GInv.stored {w : World} {gd n cap : Nat} {l : List Blk} {wr : World} (h : GInv w (.slice (some ⟨gd, 0, none⟩) n cap) l wr) {x : Blk} (hc : x.length = 256) {b : Nat} (hlt : b < l.length) : GInv w (.slice (some ⟨gd, 0, none⟩) n cap) (l.set b x) (wr.setCells gd (b * 256) (bc x)) where
  row := h.row.stored hc hlt
  grow := Below.trans h.grow ((touch_setCells (S := [gd]) (by simp) _ _ _).below h.grow.size (fun j hj => by rw [List.mem_singleton.1 hj]; exact h.lo gd rfl))
  lo := h.lo
theorem empty_row (w : World) (e sz : Nat) : Row (w.alloc (.cells #[] e)) e sz (.slice (some ⟨w.heap.size, 0, none⟩) 0 0) [] :=
  ⟨by simp, by simp, .inr ⟨w.heap.size, 0, #[], rfl, Nat.zero_le _, heap_alloc_last _ _, by simp, by simp, by simp, by simp⟩⟩
theorem flat_rep (n : Nat) : (List.replicate n (bc zeroB)).flatten = List.replicate (n * 256) (.int .u8 0) := by
  rw [bc_zero, List.flatten_replicate_replicate]
theorem made_zero (n : Nat) : (madeCells (bc zeroB).toArray (n * 256)).toList = (List.replicate n (bc zeroB)).flatten := by
  rw [flat_rep]
  apply List.ext_getElem?
  intro k
  by_cases hk : k < n * 256
  · have hz : (bc zeroB).toArray[k % 256]! = .int .u8 0 := by
      have := zero_get (k % 256) (Nat.mod_lt _ (by omega))
      rw [getElem!_def, this]
    rw [List.getElem?_replicate, if_pos hk]
    simp only [madeCells, Array.toList_map, List.getElem?_map, Array.toList_range, List.getElem?_range hk, Option.map_some, zero_size, hz]
  · rw [List.getElem?_eq_none (by rw [Array.length_toList, size_madeCells]; omega), List.getElem?_eq_none (by rw [List.length_replicate]; omega)]
theorem mk_run (n : Nat) (hn : n ≤ 4096) : ∃ M : Array Value, M.toList = (List.replicate n (bc zeroB)).flatten ∧ ∀ w : World, (Instr.makeSlice 57 (.int .i64 (n : Int)) (.int .i64 (n : Int))).run Tryd.prog w = .ok (.slice (some ⟨w.heap.size, 0, none⟩) n n) (w.alloc (.cells M 34)) := by
  obtain ⟨i0, hi, hz0, hz1, hz2⟩ := info_parts info32b
  refine ⟨madeCells (bc zeroB).toArray (n * 256), made_zero n, fun w => ?_⟩
  have hr := run_make (P := Tryd.prog) w 57 34 i0 _ Tryd.underlying57 hi hz0 .i64 .i64 n n (by omega) (Int.le_refl _) (by rw [hz2]; omega) (by omega)
  simp only [Int.toNat_natCast, hz1] at hr
  exact hr
theorem row_new {w' : World} {n : Nat} {M : Array Value} {g : Nat} (hn : n ≤ 4096) (hM : M.toList = (List.replicate n (bc zeroB)).flatten) (hg : w'.heap[g]? = some (.cells M 34)) :
    BRow w' (.slice (some ⟨g, 0, none⟩) n n) (List.replicate n zeroB) := by
  have e1 : (List.replicate n zeroB).map bc = List.replicate n (bc zeroB) := List.map_replicate
  have hl : ∀ c ∈ List.replicate n (bc zeroB), c.length = 256 := by
    intro c hc
    rw [(List.mem_replicate.1 hc).2, bc_zero, List.length_replicate]
  have hs : M.size = n * 256 := by rw [← Array.length_toList, hM, flatten_length 256 _ hl, List.length_replicate]
  unfold BRow
  rw [e1]
  refine ⟨hl, by rw [flatten_length 256 _ hl], .inr ⟨g, n, M, by simp, Nat.zero_le _, hg, by simp, by unfold maxLen; omega, by simpa using hs, ?_⟩⟩
  rw [List.length_replicate, ← hM, ← hs, ← Array.length_toList, List.take_length]
theorem GRow.tail {w : World} {e sz : Nat} {a : Option Addr} {n cap : Nat} {c : List Value} {l : List (List Value)} (h : GRow w e sz (.slice a n cap) (c :: l)) : GRow w e sz (sliced a 1 n cap sz) l ∧ (∀ g, (sliced a 1 n cap sz).ownBlock = some g → (Value.slice a n cap).ownBlock = some g) ∧ 1 ≤ n := by
  rcases h.2 with ⟨_, h2⟩ | ⟨g, o, cap', hv, h2, h3, h4, h5, h6⟩
  · cases h2
  · simp only [Value.slice.injEq] at hv
    obtain ⟨rfl, rfl, rfl⟩ := hv
    simp only [List.length_cons] at h2 ⊢
    have hc := h.1 c (List.mem_cons_self ..)
    have hsl : sliced (some ⟨g, o, none⟩) 1 (l.length + 1) cap sz = .slice (some ⟨g, if 1 = cap then o else o + sz, none⟩) l.length (cap - 1) := by
      unfold Go.sliced
      rw [Nat.add_sub_cancel]
      split
      · rename_i hh
        rw [if_pos hh.symm]
      · rename_i hh
        rw [if_neg (fun e => hh e.symm)]
        show Value.slice (some ((⟨g, o, none⟩ : Addr).add (1 * sz))) _ _ = _
        rw [Addr.add_mid, Nat.one_mul]
    rw [hsl]
    refine ⟨⟨fun d hd => h.1 d (List.mem_cons_of_mem _ hd), .inr ⟨g, _, cap - 1, rfl, by omega, by omega, h4, ?_, ?_⟩⟩, fun g' hg => hg, by omega⟩
    · intro j v hj
      by_cases e1 : 1 = cap
      · have : l = [] := List.eq_nil_of_length_eq_zero (by omega)
        subst this
        simp at hj
      · rw [if_neg e1]
        have := h5 (sz + j) v (by rw [List.flatten_cons, List.getElem?_append_right (by omega), hc, Nat.add_sub_cancel_left]; exact hj)
        rwa [← Nat.add_assoc] at this
    · intro j hj
      by_cases e1 : 1 = cap
      · subst e1; omega
      · rw [if_neg e1]
        have := h6 (sz + j) (by
          have e2 : cap = (cap - 1) + 1 := by omega
          rw [e2, Nat.add_mul, Nat.one_mul]; omega)
        rwa [← Nat.add_assoc] at this
theorem wpList_slice_l {ops : Array Oper} {rest : List Oper} {o : Oper} {a : Act} {w : World} {Q : Exit → Act → World → Prop} (hgd : o.guard = none) (t e : TypeId) (x y : Operand) (ho : o.op = .slice t x (some y) none none) (he : Tryd.prog.elem t = e) (ht : Tryd.prog.underlying t = some (.slice e)) (i : TypeInfo) (hi : Tryd.prog.info? e = some i) (sz : Nat) (hs : i.size = sz) (ad : Option Addr) (n cap k : Nat) (hx : a.eval x = .slice ad n cap) (hy : a.eval y = .int .i64 (k : Int)) (hk : k ≤ n)
    (hK : wpList Tryd.prog ops Q rest (a.put o.dst (sliced ad k n cap sz)) w) : wpList Tryd.prog ops Q (o :: rest) a w := by
  refine wpList_plain hgd fun K' hK' => ?_
  unfold Oper.wp
  have hrun : (execOp a.eval o).run Tryd.prog w = .ok (.value (sliced ad k n cap sz)) w := by
    unfold execOp
    subst he
    have h1 := run_sliceAt_slice (P := Tryd.prog) w t (.slice ad n cap) (some (.int .i64 (k : Int))) none none ht
    have h2 := run_slice_l (P := Tryd.prog) w t ad n cap ht .i64 (k : Int) (by omega) (by omega)
    have h3 : (sizeOf (Tryd.prog.elem t)).run Tryd.prog w = .ok sz w := by simp [sizeOf, typeInfo, hi, hs]
    rw [h3] at h2
    simp only [ho, hx, hy, Sem.run_bind, Option.map_some, Option.map_none, h1, h2, Result.andThen_ok, Sem.run_pure, Int.toNat_natCast]
  rw [hrun]
  exact hK' _ _ hK
theorem cell4 {w : World} {G : Nat} {a b c d : Value} {t : TypeId} (h : w.heap[G]? = some (.cells #[a, b, c, d] t)) : w.cell? ⟨G, 0, none⟩ = some a ∧ w.cell? ⟨G, 1, none⟩ = some b ∧ w.cell? ⟨G, 2, none⟩ = some c ∧ w.cell? ⟨G, 3, none⟩ = some d := ⟨cell_at h 0, cell_at h 1, cell_at h 2, cell_at h 3⟩
theorem results_tmp3 {fn : Func} {t u v : Tmp} (h : fn.results = #[.tmp t, .tmp u, .tmp v]) (tmps : Array Value) (P : Program) (w : World) :
    (results fn tmps).run P w = .ok (.tuple #[tmps.getD t undef, tmps.getD u undef, tmps.getD v undef]) w := by
  simp [results, h]
theorem results_row_tmp {P : Program} {fn : Func} {p q : Tmp} {ty : TypeId} (h : fn.results = #[.cell p ty, .tmp q]) (tmps : Array Value) (w : World) (g : Nat) (t : TypeId) (cs : Array Value) (fr : Nat × Nat) (d : TypeDesc) (v : Value)
    (hp : tmps.getD p undef = .pointer (some ⟨g, 0, none⟩)) (hg : w.heap[g]? = some (.cells cs t fr))
    (hu : P.underlying ty = some d) (hd : (match d with | .struct _ | .array _ _ => true | _ => false) = true) (hi : (P.info? ty).map (·.size) = some cs.size) (hv : tmps.getD q undef = v) :
    (results fn tmps).run P w = .ok (.tuple #[.agg cs, v]) w := by
  have hp' : tmps[p]?.getD undef = .pointer (some ⟨g, 0, none⟩) := by simpa using hp
  have hv' : tmps[q]?.getD undef = v := by simpa using hv
  simp [results, h, hp', hv', asAddr, run_loadVar_row w g t ty cs fr d hg hu hd hi]
end Go.Proofs.YtieknecbheeekaaDoor
