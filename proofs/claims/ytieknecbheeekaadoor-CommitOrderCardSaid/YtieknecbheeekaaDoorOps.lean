/- Laws of single operations for my region rule, and of rows: what all layers use. -/
import Derived.Test.YtieknecbheeekaaDoorMem
import Derived.Test.YtieknecbheeekaaDoorRegionN
import Derived.Maps.AppendAt
import Derived.WalkKit
import Derived.WalkSpells
import Derived.Lib.Hide
import Derived.Deep.WholeRow
import Derived.Deep.Draws
set_option linter.unusedVariables false
set_option linter.unusedSimpArgs false
namespace Go.Proofs.YtieknecbheeekaaDoor
open Go.RowKit

def Grow (w w' : World) : Prop := Below w.heap.size w w'
theorem Grow.refl (w : World) : Grow w w := Below.refl _ _
theorem Grow.trans {a b c : World} (h : Grow a b) (h' : Grow b c) : Grow a c := Below.trans h (Below.mono h' (Below.size h))
theorem Grow.alloc (w : World) (o : Obj) : Grow w (w.alloc o) := (Below.refl _ _).alloc (Nat.le_refl _) _
theorem Grow.drew (w : World) : Grow w w.drew := (Below.refl _ _).drew
theorem cell_at {w : World} {B : Nat} {C : Array Value} {t : TypeId} (h : w.heap[B]? = some (.cells C t)) (j : Nat) : w.cell? ⟨B, j, none⟩ = C[j]? := by
  simp only [World.cell?, h]; rfl
theorem frozen_at {w : World} {B : Nat} {C : Array Value} {t : TypeId} (h : w.heap[B]? = some (.cells C t)) (j : Nat) : w.frozen? ⟨B, j, none⟩ = false := frozen_of_row w B j C t h
theorem ret_int {k : IntKind} {a b : Int} (h : a = b) : Ending.returned (.int k a) = .returned (.int k b) := by rw [h]
theorem add_block (a : Addr) (n : Nat) : (a.add n).block = a.block := by unfold Addr.add; split <;> rfl
theorem heap_set {w : World} {B : Nat} {C : Array Value} {t : TypeId} (h : w.heap[B]? = some (.cells C t)) (j : Nat) (v : Value) : (w.setCell ⟨B, j, none⟩ v).heap[B]? = some (.cells (C.setIfInBounds j v) t) := heap_setCell_same w B j C t v h
theorem below_setRow {B g : Nat} {a w : World} (h : Below B a w) (hg : B ≤ g) (cs : Array Value) : Below B a (w.setRow g cs) :=
  h.trans ⟨rfl, rfl, rfl, by simp, fun k hk => setRow_other w g k cs (by omega)⟩
theorem heap_two (w : World) (a b : Obj) : ((w.alloc a).alloc b).heap[w.heap.size + 1]? = some b := by
  have := heap_alloc_last (w.alloc a) b
  simpa using this
theorem heap_one (w : World) (a b : Obj) : ((w.alloc a).alloc b).heap[w.heap.size]? = some a :=
  (Below.heap_alloc (w.alloc a) b w.heap.size (by simp)).trans (heap_alloc_last w a)
section
variable {P : Program}
/-- an operation whose run is known -/
theorem gives_run {o : Oper} {a : Act} {w w' : World} {v : Value} {T : Value → World → Prop} (h : (execOp a.eval o).run P w = .ok (.value v) w') (hT : T v w') : Oper.gives P o a w T := by
  unfold Oper.gives; rw [h]; exact hT
theorem gives_load_row {o : Oper} {a : Act} {w : World} {T : Value → World → Prop} (ty : TypeId) (x : Operand) (ho : o.op = .load ty x) (g : Nat) (hx : a.eval x = .pointer (some ⟨g, 0, none⟩)) (t : TypeId) (cs : Array Value) (fr : Nat × Nat) (d : TypeDesc)
    (hg : w.heap[g]? = some (.cells cs t fr)) (hu : P.underlying ty = some d) (hd : (match d with | .struct _ | .array _ _ => true | _ => false) = true) (hi : (P.info? ty).map (·.size) = some cs.size) (hT : T (.agg cs) w) : Oper.gives P o a w T := by
  refine gives_run (v := .agg cs) (w' := w) ?_ hT
  unfold execOp
  simp only [ho, hx, Instr.loadAt, Instr.sureAddr, Sem.run_bind, Sem.run_pure, Result.andThen_ok, run_loadVar_row w g t ty cs fr d hg hu hd hi]
theorem gives_build {o : Oper} {a : Act} {w : World} {T : Value → World → Prop} (t : TypeId) (parts : Array (Nat × Operand)) (ho : o.op = .build t parts) (cells : Array Value) (hf : P.built t (parts.map fun (i, x) => (i, a.eval x)).toList = some cells) (hT : T (.agg cells) w) : Oper.gives P o a w T := by
  refine gives_run (v := .agg cells) (w' := w) ?_ hT
  unfold execOp
  simp only [ho, Sem.run_bind, run_build w t _ cells hf, Result.andThen_ok, Sem.run_pure]
theorem gives_buildSlice {o : Oper} {a : Act} {w w' : World} {v : Value} {T : Value → World → Prop} (t : TypeId) (len : Nat) (parts : Array (Nat × Operand)) (ho : o.op = .buildSlice t len parts) (hf : (Instr.buildSlice t len (parts.map fun (i, x) => (i, a.eval x))).run P w = .ok v w') (hT : T v w') : Oper.gives P o a w T := by
  refine gives_run (v := v) (w' := w') ?_ hT
  unfold execOp
  simp only [ho, Sem.run_bind, hf, Result.andThen_ok, Sem.run_pure]
theorem gives_append {o : Oper} {a : Act} {w : World} {T : Value → World → Prop} (s x : Operand) (t : TypeId) (ho : o.op = .call { callee := .builtin .append, args := #[s, x], argTypes := #[t, t] })
    (e : TypeId) (i : TypeInfo) (z : Value) (size bytes : Nat) (ht : P.underlying t = some (.slice e)) (hi : P.info? e = some i) (hz : i.zero = some z) (hsize : i.size = size) (hby : i.bytes = bytes) (hzs : z.cells.size = size) (hsz : 0 < size)
    (v : Value) (l : List (List Value)) (hs : a.eval s = v) (hrow : Row w e size v l) (ad : Addr) (c : Nat) (news : List Value) (hx : a.eval x = .slice (some ad) 1 c) (hl : news.length = size) (hnews : ∀ j u, news[j]? = some u → w.cell? (ad.add j) = some u) (h1 : ∀ u ∈ news, u.oneCell' = true)
    (hlen : l.length + 1 ≤ 1000000) (hbytes : bytes ≤ 1000000) (hT : ∀ v' w', Row w' e size v' (l ++ [news]) → w.grownBy w' v.ownBlock → (v'.ownBlock = v.ownBlock ∨ v'.ownBlock = some w.heap.size) → v' ≠ .slice none 0 0 → T v' w') : Oper.gives P o a w T := by
  obtain ⟨v', w', hr, h2, h3, h4, h5⟩ := run_append_own_at (P := P) w 0 t o.type e i z size bytes ht hi hz hsize hby hzs hsz v l.length l.flatten hrow.2 ad 1 c news (by omega) hnews h1 (by unfold maxLen; omega)
    (Nat.le_trans (Nat.mul_le_mul hlen hbytes) (by omega)) (Nat.zero_le _)
  refine gives_run (v := v') (w' := w') ?_ (hT v' w' ⟨?_, ?_⟩ h3 h5 (fun e => by have := (h4.1 e).2; omega))
  · unfold execOp
    simp only [ho, resolve, invoke, builtin, Sem.run_bind, Sem.run_pure, Result.andThen_ok, List.map_toArray, List.map_cons, List.map_nil, hs, hx, hr]
  · intro d hd
    rcases List.mem_append.1 hd with h | h
    · exact hrow.1 d h
    · rw [List.mem_singleton.1 h]; exact hl
  · rw [List.flatten_append, List.length_append]
    simpa using h2
end
theorem gives_store_mid {P : Program} {o : Oper} {a : Act} {T : Value → World → Prop} (w : World) (ty : TypeId) (b off : Nat) (cells : Array Value) {x y : Operand} (ho : o.op = .store ty x y) (hx : a.eval x = .pointer (some ⟨b, off, none⟩)) (hy : a.eval y = .agg cells)
    (ht : w.there b off cells.size) (hi : (P.info? ty).map (·.size) = some cells.size) (h1 : cells.all (·.oneCell') = true) (hT : T undef (w.setCells b off cells.toList)) : Oper.gives P o a w T := by
  unfold Oper.gives execOp
  simp only [ho, hx, hy, Sem.run_bind, run_storeAt_mid w b off ty cells ht hi h1, Result.andThen_ok, Sem.run_pure]
  exact hT
theorem gives_load_mid {P : Program} {o : Oper} {a : Act} {w : World} {T : Value → World → Prop} (ty : TypeId) (x : Operand) (ho : o.op = .load ty x) (b off : Nat) (hx : a.eval x = .pointer (some ⟨b, off, none⟩)) (cs : List Value) (d : TypeDesc) (hc : w.rangeAt b off cs)
    (hu : P.underlying ty = some d) (hd : d.isRow = true) (hi : (P.info? ty).map (·.size) = some cs.length) (hT : T (.agg cs.toArray) w) : Oper.gives P o a w T := by
  refine gives_run (v := .agg cs.toArray) (w' := w) ?_ hT
  unfold execOp
  simp only [ho, hx, Instr.loadAt, Instr.sureAddr, Sem.run_bind, Sem.run_pure, Result.andThen_ok, run_loadVar_mid w b off ty cs d hc hu hd hi]
theorem gives_binOp {P : Program} {o : Oper} {a : Act} {w w' : World} {T : Value → World → Prop} (op : BinOp) (t : TypeId) (x y : Operand) (t' : TypeId) (ho : o.op = .binOp op t x y t') (u v : Value) (hx : a.eval x = u) (hy : a.eval y = v) (hgd : (eqGuard op t x y u v).run P w = .ok () w) {r : Value} (hr : (binOp op t u v).run P w = .ok r w') (hT : T r w') : Oper.gives P o a w T := by
  refine gives_run (v := r) (w' := w') ?_ hT
  unfold execOp
  simp only [ho, hx, hy, Sem.run_bind, hgd, hr, Result.andThen_ok, Sem.run_pure]

theorem cells_add {w : World} {g : Nat} {c : List Value} {t : TypeId} (h : w.heap[g]? = some (.cells c.toArray t)) : ∀ j u, c[j]? = some u → w.cell? ((⟨g, 0, none⟩ : Addr).add j) = some u := by
  intro j u hj
  rw [Addr.add_mid, Nat.zero_add, cell_at h]
  simpa using hj
def codesOf : Code → List Code
  | .loop c => codesOf c
  | .seq a b => codesOf a ++ codesOf b
  | .block _ c => codesOf c
  | .scope c => codesOf c
  | .cond _ a b => codesOf a ++ codesOf b
  | .region i o b => [.region i o b]
  | _ => []
def isReg (k : Nat) : Code → Bool
  | .region i _ _ => i == k
  | _ => false
def regById (k : Nat) (l : List Code) : Code := (l.find? (isReg k)).getD .skip
theorem range_touch {w w' : World} {g o : Nat} {c : List Value} {S : List Nat} (h : w.rangeAt g o c) (ht : Touch S w w') (hg : g < w.heap.size) (hn : g ∉ S) : w'.rangeAt g o c :=
  fun j v hv => (ht.cell (a := ⟨g, o + j, none⟩) hg hn).trans (h j v hv)

theorem heap_row_one {w w1 : World} {o : Obj} (h : Grow (w.alloc o) w1) : w1.heap[w.heap.size]? = some o := (h.block _ (by simp)).trans (heap_alloc_last w o)

theorem Row.len {w : World} {e sz : Nat} {v : Value} {l : List (List Value)} (h : Row w e sz v l) : ∃ a cap, v = .slice a l.length cap := by
  rcases h.2.2 with ⟨h1, h2⟩ | ⟨g, cap, cur, hv, _⟩
  · exact ⟨none, 0, by rw [h1, h2]⟩
  · exact ⟨_, cap, hv⟩

theorem touch_drewN (S : List Nat) (w : World) (n : Nat) : Touch S w (w.drewN n) := ⟨rfl, rfl, rfl, Nat.le_refl _, fun _ _ _ => rfl⟩
theorem grow_drewN (w : World) (n : Nat) : Grow w (w.drewN n) := (touch_drewN [] w n).below (Nat.le_refl _) (by simp)
theorem new_cells (w : World) (c : List Value) (t : TypeId) : ∀ j u, c[j]? = some u → (w.alloc (.cells c.toArray t)).cell? ((⟨w.heap.size, 0, none⟩ : Addr).add j) = some u := cells_add (heap_alloc_last w _)
theorem new_cells2 (w : World) (o : Obj) (c : List Value) (t : TypeId) : ∀ j u, c[j]? = some u → ((w.alloc o).alloc (.cells c.toArray t)).cell? ((⟨w.heap.size + 1, 0, none⟩ : Addr).add j) = some u := cells_add (heap_two w o _)
theorem rowNil (w : World) (e sz : Nat) : Row w e sz (.slice none 0 0) [] := ⟨by simp, ⟨by simp, .inl ⟨rfl, rfl⟩⟩⟩
/-- a row of one element, newly made, apart from S -/
def OneAtE (t : TypeId) (S : List Nat) (W : World) (c : List Value) : Value → World → Prop := fun v w =>
  v = .slice (some ⟨v.ownBlock.getD 0, 0, none⟩) 1 1 ∧ w.heap[v.ownBlock.getD 0]? = some (.cells c.toArray t) ∧ v.ownBlock.getD 0 ∉ S ∧ W.heap.size ≤ v.ownBlock.getD 0
theorem OneAtE.touch {t : TypeId} {S T : List Nat} {W : World} {c : List Value} {v : Value} {w w' : World} (h : OneAtE t S W c v w) (ht : Touch T w w') (hT : ∀ k ∈ T, k ∈ S) : OneAtE t S W c v w' :=
  ⟨h.1, (ht.block _ (Array.getElem?_eq_some_iff.1 h.2.1).1 (fun hm => h.2.2.1 (hT _ hm))).trans h.2.1, h.2.2⟩
theorem OneAtE.grown {t : TypeId} {S : List Nat} {W : World} {c : List Value} {v : Value} {w w' : World} {row : Option Nat} (h : OneAtE t S W c v w) (hg : w.grownBy w' row) (hr : ∀ k, row = some k → k ∈ S) : OneAtE t S W c v w' :=
  h.touch (Touch.grown hg hr) (fun _ h => h)
/-- the row behind an append -/
def AppAtE (t sz : Nat) (W : World) (vw : Value) (l : List (List Value)) : Value → World → Prop := fun v w =>
  Row w t sz v l ∧ (v.ownBlock = vw.ownBlock ∨ ∃ g, v.ownBlock = some g ∧ W.heap.size ≤ g)
def ownL (vw : Value) : List Nat := vw.ownBlock.toList
theorem ownL_mem {vw : Value} {k : Nat} : k ∈ ownL vw ↔ vw.ownBlock = some k := by unfold ownL; simp
/-- append of one element, in a walk -/
theorem wpList_append_row {P : Program} {ops : Array Oper} {rest : List Oper} {o : Oper} {a : Act} {w : World} {Q : Exit → Act → World → Prop} (hgd : o.guard = none) (s x : Operand) (t : TypeId)
    (ho : o.op = .call { callee := .builtin .append, args := #[s, x], argTypes := #[t, t] })
    (e : TypeId) (i : TypeInfo) (z : Value) (size bytes : Nat) (ht : P.underlying t = some (.slice e)) (hi : P.info? e = some i) (hz : i.zero = some z) (hsize : i.size = size) (hby : i.bytes = bytes) (hzs : z.cells.size = size) (hsz : 0 < size)
    (v : Value) (l : List (List Value)) (hs : a.eval s = v) (hrow : Row w e size v l) (ad : Addr) (c : Nat) (news : List Value) (hx : a.eval x = .slice (some ad) 1 c) (hl : news.length = size) (hnews : ∀ j u, news[j]? = some u → w.cell? (ad.add j) = some u) (h1 : ∀ u ∈ news, u.oneCell' = true)
    (hlen : l.length + 1 ≤ 1000000) (hbytes : bytes ≤ 1000000) (hT : ∀ v' w', AppAtE e size w v (l ++ [news]) v' w' → Touch (ownL v) w w' → wpList P ops Q rest (a.put o.dst v') w') : wpList P ops Q (o :: rest) a w := by
  refine wpList_plain hgd fun K' hK' => ?_
  obtain ⟨v', w', hr, h2, h3, h4, h5⟩ := run_append_own_at (P := P) w 0 t o.type e i z size bytes ht hi hz hsize hby hzs hsz v l.length l.flatten hrow.2 ad 1 c news (by omega) hnews h1 (by unfold maxLen; omega)
    (Nat.le_trans (Nat.mul_le_mul hlen hbytes) (by omega)) (Nat.zero_le _)
  unfold Oper.wp
  have hrun : (execOp a.eval o).run P w = .ok (.value v') w' := by
    unfold execOp
    simp only [ho, resolve, invoke, builtin, Sem.run_bind, Sem.run_pure, Result.andThen_ok, List.map_toArray, List.map_cons, List.map_nil, hs, hx, hr]
  rw [hrun]
  refine hK' _ _ (hT v' w' ⟨⟨?_, ?_⟩, ?_⟩ (Touch.grown h3 (fun k e => ownL_mem.2 e)))
  · intro d hd
    rcases List.mem_append.1 hd with h | h
    · exact hrow.1 d h
    · rw [List.mem_singleton.1 h]; exact hl
  · rw [List.flatten_append, List.length_append]
    simpa using h2
  · rcases h5 with h | h
    · exact .inl h
    · exact .inr ⟨_, h, Nat.le_refl _⟩
end Go.Proofs.YtieknecbheeekaaDoor
