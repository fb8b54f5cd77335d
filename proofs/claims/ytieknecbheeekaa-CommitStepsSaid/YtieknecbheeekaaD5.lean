/- A write that waits, built by value; a row of one, built. -/
import Derived.Test.YtieknecbheeekaaD4
import Derived.Test.YtieknecbheeekaaRegionN
import Derived.Maps.AppendAt
set_option linter.unusedVariables false
set_option linter.unusedSimpArgs false
namespace Go.Proofs.Ytieknecbheeekaa
open Go.RowKit

theorem foldSet_toList : ∀ (vs : List Value) (k off : Nat) (cells : Array Value), ((vs.zipIdx k).foldl (fun cs (p : Value × Nat) => cs.setIfInBounds (off + p.2) p.1) cells).toList = setMany cells.toList (off + k) vs := by
  intro vs
  induction vs with
  | nil => intro k off cells; rfl
  | cons v r ih =>
    intro k off cells
    rw [List.zipIdx_cons, List.foldl_cons, ih, setMany, Array.toList_setIfInBounds, Nat.add_assoc]
theorem foldSet (vs : Array Value) (off : Nat) (cells : Array Value) : vs.zipIdx.foldl (fun cs (p : Value × Nat) => cs.setIfInBounds (off + p.2) p.1) cells = (setMany cells.toList off vs.toList).toArray := by
  rw [← Array.foldl_toList]
  have := foldSet_toList vs.toList 0 off cells
  rw [Nat.add_zero] at this
  rw [← this]
  simp
theorem setMany_all (xs vs : List Value) (h : xs.length = vs.length) : setMany xs 0 vs = vs := by
  apply List.ext_getElem?
  intro k
  rw [setMany_get _ _ _ _ (by omega)]
  split
  · simp
  · rename_i hk
    rw [List.getElem?_eq_none (by omega), List.getElem?_eq_none (by omega)]
theorem setMany_tail (x : Value) (xs vs : List Value) (h : xs.length = vs.length) : setMany (x :: xs) 1 vs = x :: vs := by
  apply List.ext_getElem?
  intro k
  rw [setMany_get _ _ _ _ (by simp; omega)]
  cases k with
  | zero => rw [if_neg (by omega)]; simp
  | succ k =>
    split
    · simp
    · rename_i hk
      rw [List.getElem?_eq_none (by simp; omega), List.getElem?_eq_none (by simp; omega)]
theorem wc_length (p : Nat × Blk) (h : p.2.length = 256) : (wc p).length = 257 := by unfold wc; rw [List.length_cons, bc_length, h]
theorem wc_one (p : Nat × Blk) : ∀ v ∈ wc p, v.oneCell' = true := by
  intro v hv
  rcases List.mem_cons.1 hv with rfl | h
  · rfl
  · exact bc_one _ _ h
def zeroW : List Value := .int .i64 0 :: bc zeroB
theorem zeroW_len : zeroW.length = 257 := by unfold zeroW; rw [List.length_cons, bc_zero, List.length_replicate]
theorem fill_cons {place : Nat → Option (Nat × Nat)} {cells : Array Value} {i off size : Nat} {v : Value} {rest : List (Nat × Value)} (hp : place i = some (off, size)) (h1 : v.cells.size = size) (h2 : off + size ≤ cells.size) :
    Instr.fill place cells ((i, v) :: rest) = Instr.fill place (setMany cells.toList off v.cells.toList).toArray rest := by
  rw [Instr.fill, hp]
  dsimp only
  rw [if_neg (by rw [h1]; simp; omega), foldSet]
theorem built76 (parts : List (Nat × Value)) : Try.prog.built 93 parts = Instr.fill (fun i => ([(0, 1), (1, 256)] : List (Nat × Nat)).toArray[i]?) zeroW.toArray parts := by kernel_rfl
theorem built_write (b : Nat) (x : Blk) (hx : x.length = 256) : Try.prog.built 93 [(0, .int .i64 (b : Int)), (1, .agg (bc x).toArray)] = some (wc (b, x)).toArray := by
  have hl : (bc x).length = 256 := by rw [bc_length]; exact hx
  have hz : (bc zeroB).length = 256 := by rw [bc_zero, List.length_replicate]
  rw [built76, fill_cons (off := 0) (size := 1) rfl rfl (by rw [List.size_toArray, zeroW_len]; omega)]
  rw [fill_cons (off := 1) (size := 256) rfl (by show (bc x).toArray.size = 256; rw [List.size_toArray, hl]) (by rw [List.size_toArray, setMany_length]; show 1 + 256 ≤ zeroW.length; rw [zeroW_len]; omega)]
  rw [Instr.fill]
  congr 2
  show setMany (setMany zeroW 0 [.int .i64 (b : Int)]) 1 (bc x) = wc (b, x)
  unfold zeroW wc
  simp only [setMany, List.set_cons_zero]
  rw [setMany_tail _ _ _ (by rw [hz, hl])]
theorem info76 : (Try.prog.info? 93).map (fun i => (i.zero, i.size, i.bytes)) = some (some (.agg zeroW.toArray), 257, 264) := by kernel_rfl
set_option maxRecDepth 100000 in
theorem buildSlice_one (c : List Value) (hc : c.length = 257) (w : World) : (Instr.buildSlice 66 1 #[(0, .agg c.toArray)]).run Try.prog w = .ok (.slice (some ⟨w.heap.size, 0, none⟩) 1 1) (w.alloc (.cells c.toArray 93)) := by
  obtain ⟨i0, hi, hz0, hz1, hz2⟩ := info_parts info76
  have hfill : Instr.fill (fun i => some (i * 257, 257)) ((Array.range 257).map (zeroW.toArray[· % zeroW.toArray.size]!)) [(0, .agg c.toArray)] = some c.toArray := by
    rw [fill_cons (off := 0 * 257) (size := 257) rfl (by show c.toArray.size = 257; rw [List.size_toArray, hc]) (by simp), Instr.fill]
    congr 2
    rw [Nat.zero_mul]
    exact setMany_all _ _ (by show _ = c.toArray.toList.length; simp [hc])
  unfold Instr.buildSlice
  simp only [Sem.run_bind, run_underlying Try.underlying66, Result.andThen_ok, sizeOf, typeInfo, hi, hz1, zeroValue, hz0]
  simp [hi, hz1, hz0]
  rw [show (Value.agg zeroW.toArray).cells = zeroW.toArray from rfl, hfill]
  simp [newRow, go_sem]

section
variable {P : Program}
/-- an operation whose run is known -/
theorem gives_run {o : Oper} {a : Act} {w w' : World} {v : Value} {T : Value → World → Prop} (h : (execOp a.eval o).run P w = .ok (.value v) w') (hT : T v w') : Oper.gives P o a w T := by
  unfold Oper.gives; rw [h]; exact hT
theorem gives_load_row {o : Oper} {a : Act} {w : World} {T : Value → World → Prop} (ty : TypeId) (x : Operand) (ho : o.op = .load ty x) (g : Nat) (hx : a.eval x = .pointer (some ⟨g, 0, none⟩)) (t : TypeId) (cs : Array Value) (fr : Nat × Nat) (d : TypeDesc)
    (hg : w.heap[g]? = some (.cells cs t fr)) (hu : P.underlying ty = some d) (hd : (match d with | .struct _ | .array _ _ => true | _ => false) = true) (hi : (P.info? ty).map (·.size) = some cs.size) (hT : T (.agg cs) w) : Oper.gives P o a w T := by
  refine gives_run (v := .agg cs) (w' := w) ?_ hT
  unfold execOp
  simp only [ho, hx, Instr.loadAt, Instr.sureAddr, Sem.run_bind, Sem.run_pure, Result.andThen_ok, run_loadVar_row w g t ty cs fr d hg hu hd hi]
theorem gives_build {o : Oper} {a : Act} {w : World} {T : Value → World → Prop} (t : TypeId) (parts : Array (Nat × Operand)) (ho : o.op = .build t parts) (cells : Array Value) (hf : P.built t (parts.map fun (i, x) => (i, a.eval x)).toList = some cells) (hT : T (.agg cells) w) : Oper.gives P o a w T := by
  refine gives_run (v := .agg cells) (w' := w) ?_ hT
  unfold execOp
  simp only [ho, Sem.run_bind, run_build w t _ cells hf, Result.andThen_ok, Sem.run_pure]
theorem gives_buildSlice {o : Oper} {a : Act} {w w' : World} {v : Value} {T : Value → World → Prop} (t : TypeId) (len : Nat) (parts : Array (Nat × Operand)) (ho : o.op = .buildSlice t len parts) (hf : (Instr.buildSlice t len (parts.map fun (i, x) => (i, a.eval x))).run P w = .ok v w') (hT : T v w') : Oper.gives P o a w T := by
  refine gives_run (v := v) (w' := w') ?_ hT
  unfold execOp
  simp only [ho, Sem.run_bind, hf, Result.andThen_ok, Sem.run_pure]
theorem gives_append {o : Oper} {a : Act} {w : World} {T : Value → World → Prop} (s x : Operand) (t : TypeId) (ho : o.op = .call { callee := .builtin .append, args := #[s, x], argTypes := #[t, t] })
    (e : TypeId) (i : TypeInfo) (z : Value) (size bytes : Nat) (ht : P.underlying t = some (.slice e)) (hi : P.info? e = some i) (hz : i.zero = some z) (hsize : i.size = size) (hby : i.bytes = bytes) (hzs : z.cells.size = size) (hsz : 0 < size)
    (v : Value) (l : List (List Value)) (hs : a.eval s = v) (hrow : Row w e size v l) (ad : Addr) (c : Nat) (news : List Value) (hx : a.eval x = .slice (some ad) 1 c) (hl : news.length = size) (hnews : ∀ j u, news[j]? = some u → w.cell? (ad.add j) = some u) (h1 : ∀ u ∈ news, u.oneCell' = true)
    (hlen : l.length + 1 ≤ 1000000) (hbytes : bytes ≤ 1000000) (hT : ∀ v' w', Row w' e size v' (l ++ [news]) → w.grownBy w' v.ownBlock → (v'.ownBlock = v.ownBlock ∨ v'.ownBlock = some w.heap.size) → v' ≠ .slice none 0 0 → T v' w') : Oper.gives P o a w T := by
  obtain ⟨v', w', hr, h2, h3, h4, h5⟩ := run_append_own_at (P := P) w 0 t o.type e i z size bytes ht hi hz hsize hby hzs hsz v l.length l.flatten hrow.2 ad 1 c news (by omega) hnews h1 (by unfold maxLen; omega)
    (Nat.le_trans (Nat.mul_le_mul hlen hbytes) (by omega)) (Nat.zero_le _)
  refine gives_run (v := v') (w' := w') ?_ (hT v' w' ⟨?_, ?_⟩ h3 h5 (fun e => by have := (h4.1 e).2; omega))
  · unfold execOp
    simp only [ho, resolve, invoke, builtin, Sem.run_bind, Sem.run_pure, Result.andThen_ok, List.map_toArray, List.map_cons, List.map_nil, hs, hx, hr]
  · intro d hd
    rcases List.mem_append.1 hd with h | h
    · exact hrow.1 d h
    · rw [List.mem_singleton.1 h]; exact hl
  · rw [List.flatten_append, List.length_append]
    simpa using h2
end
end Go.Proofs.Ytieknecbheeekaa
