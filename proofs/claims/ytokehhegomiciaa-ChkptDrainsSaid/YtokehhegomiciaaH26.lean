/- Steps compared: the same one. -/
import Derived.Test.YtokehhegomiciaaH24
set_option linter.unusedVariables false
set_option linter.unusedSimpArgs false
namespace Go.Proofs.Ytokehhegomiciaa
open Go.RowKit Go.Maps

/-- an operation that stands under a condition that holds -/
theorem wpList_gv {ops : Array Oper} {rest : List Oper} {o : Oper} {a : Act} {w : World} {Q : Exit → Act → World → Prop} {T : Value → World → Prop} (h : Oper.gives Try.prog o a w T) (hK : ∀ v w', T v w' → wpList Try.prog ops Q rest (a.put o.dst v) w') (hw : Region.wanted o (yielded ops a.tmps) = true) : wpList Try.prog ops Q (o :: rest) a w :=
  wpList_step fun K hK' => by rw [if_pos hw]; exact Oper.gives_wp rfl h (fun v w' ht => hK' _ _ (hK v w' ht))
theorem wpList_load_midG {ops : Array Oper} {rest : List Oper} {o : Oper} {a : Act} {w : World} {Q : Exit → Act → World → Prop} (ty : TypeId) (x : Operand) (ho : o.op = .load ty x) (b off : Nat) (hx : a.eval x = .pointer (some ⟨b, off, none⟩)) (cs : List Value) (d : TypeDesc) (hc : w.rangeAt b off cs)
    (hu : Try.prog.underlying ty = some d) (hd : d.isRow = true) (hi : (Try.prog.info? ty).map (·.size) = some cs.length) (hw : Region.wanted o (yielded ops a.tmps) = true) (hK : wpList Try.prog ops Q rest (a.put o.dst (.agg cs.toArray)) w) : wpList Try.prog ops Q (o :: rest) a w :=
  wpList_gv (gives_load_mid ty x ho b off hx cs d hc hu hd hi (T := fun v w' => v = .agg cs.toArray ∧ w' = w) ⟨rfl, rfl⟩) (by rintro v w' ⟨rfl, rfl⟩; exact hK) hw
theorem wpList_eqG {ops : Array Oper} {rest : List Oper} {o : Oper} {a : Act} {w : World} {Q : Exit → Act → World → Prop} (op : BinOp) (t : TypeId) (x y : Operand) (t' : TypeId) (ho : o.op = .binOp op t x y t') (p q : Array Value) (hx : a.eval x = .agg p) (hy : a.eval y = .agg q) (hgd : ∀ x y, (eqGuard op t x y (.agg p) (.agg q)).run Try.prog w = .ok () w) {r : Value} (hr : (binOp op t (.agg p) (.agg q)).run Try.prog w = .ok r w)
    (hw : Region.wanted o (yielded ops a.tmps) = true) (hK : wpList Try.prog ops Q rest (a.put o.dst r) w) : wpList Try.prog ops Q (o :: rest) a w :=
  wpList_gv (gives_binOp op _ x y t' ho _ _ hx hy (hgd x y) hr (T := fun v w' => v = r ∧ w' = w) ⟨rfl, rfl⟩) (by rintro v w' ⟨rfl, rfl⟩; exact hK) hw
/-! ### heads compared -/
theorem guardTH : Try.prog.eqGuardType Try.prog.depth 53 = false := by kernel_rfl
theorem gH (op : BinOp) (p q : Array Value) (w : World) (x y : Operand) : (eqGuard op 53 x y (.agg p) (.agg q)).run Try.prog w = .ok () w := run_eqGuard_agg w op _ x y p q guardTH
theorem underH : Try.prog.underlying 53 = some (.struct (Try.prog.fieldsOf 53)) := by kernel_rfl
theorem fieldsH : (Try.prog.fieldsOf 53).toList.map (fun f => (decide (f.name ≠ "_"), f.type, f.offset)) = [(true, 25, 0), (true, 3, 1)] := by kernel_rfl
theorem held53 : Try.prog.stoodInHeld 53 = false := by kernel_rfl
theorem plain25 : Try.prog.plainKey 25 = true := by kernel_rfl
theorem equalH (a b c d : Int) (w : World) : (Op.equalIn 10000 53 (.agg #[.int .u32 a, .int .i64 b]) (.agg #[.int .u32 c, .int .i64 d])).run Try.prog w = .ok ((a == c) && (b == d)) w := by
  rw [run_equalIn_struct w 9999 _ _ _ underH held53]
  have hf := fieldsH
  generalize (Try.prog.fieldsOf 53).toList = fs at *
  rcases fs with _ | ⟨f0, _ | ⟨f1, _ | ⟨f2, r⟩⟩⟩
  · exact absurd (congrArg List.length hf) (by simp only [List.map_nil, List.length_nil, List.length_cons]; omega)
  · exact absurd (congrArg List.length hf) (by simp only [List.map_cons, List.map_nil, List.length_nil, List.length_cons]; omega)
  · simp only [List.map_cons, List.map_nil, List.cons.injEq, and_true, Prod.mk.injEq] at hf
    exact eqFields_two 9999 _ _ f0 f1 w 25 3 0 1 hf.1 hf.2 (.int .u32 a) (.int .u32 c) (.int .i64 b) (.int .i64 d) _ _ (run_part_plain w plain25 rfl) (run_part_plain w plain25 rfl) (run_part_plain w plain3 rfl) (run_part_plain w plain3 rfl) (run_equalIn_int w 9998 25 .u32 .u32 _ _ Try.underlying25) (run_equalIn_int w 9998 3 .i64 .i64 _ _ Try.underlying3)
  · exact absurd (congrArg List.length hf) (by simp only [List.length_map, List.length_cons, List.length_nil]; omega)
theorem eqlH (a b c d : Int) (w : World) : (binOp .eql 53 (.agg #[.int .u32 a, .int .i64 b]) (.agg #[.int .u32 c, .int .i64 d])).run Try.prog w = .ok (.bool ((a == c) && (b == d))) w := by
  rw [run_eql_struct, equalH]; rfl
theorem neqH (a b c d : Int) (w : World) : (binOp .neq 53 (.agg #[.int .u32 a, .int .i64 b]) (.agg #[.int .u32 c, .int .i64 d])).run Try.prog w = .ok (.bool (!((a == c) && (b == d)))) w := by
  rw [run_neq_struct, equalH]; rfl
/-! ### a step's cells -/
theorem snth2 {s : SV} (h : s.data.length = 256) : (scell s).toArray[258]? = some (.int .u32 (s.hs : Int)) ∧ (scell s).toArray[259]? = some (.int .i64 s.hst) ∧ (scell s).toArray[260]? = some (.int .i64 s.give) := by
  have hl : (bc s.data).length = 256 := by rw [bc_length]; exact h
  unfold scell
  simp only [List.getElem?_toArray, List.getElem?_cons_succ]
  refine ⟨?_, ?_, ?_⟩ <;> (rw [List.getElem?_append_right (by omega), hl]; rfl)
theorem srange {w : World} {g : Nat} {s : SV} {t : TypeId} (h : w.heap[g]? = some (.cells (scell s).toArray t)) : w.rangeAt g 2 (bc s.data) := by
  intro j v hj
  rw [cell_at h, List.getElem?_toArray]
  show (scell s)[2 + j]? = _
  unfold scell
  rw [Nat.add_comm 2 j]
  show (bc s.data ++ _)[j]? = _
  rw [List.getElem?_append_left (List.getElem?_eq_some_iff.1 hj).1]
  exact hj
set_option maxRecDepth 100000 in
set_option maxHeartbeats 4000000 in
theorem step_same (s : SV) (hs : s.data.length = 256) (w : World) : Calls Try.prog 26 #[.agg (scell s).toArray, .agg (scell s).toArray] w fun e w' => e = .returned (.bool true) ∧ Grow w w' := by
  have HXa := Lib.hid (heap_one w (.cells (scell s).toArray 57) (.cells (scell s).toArray 74))
  have HXb := Lib.hid (heap_two w (.cells (scell s).toArray 57) (.cells (scell s).toArray 74))
  have HN := Lib.hid (snth s)
  have HN2 := Lib.hid (snth2 hs)
  have HRA := Lib.hid (srange HXa.out)
  have HRB := Lib.hid (srange HXb.out)
  have HG := Lib.hid (show Grow w ((w.alloc (.cells (scell s).toArray 57)).alloc (.cells (scell s).toArray 74)) from (Grow.alloc _ _).trans (Grow.alloc _ _))
  have HSL := Lib.hid (show (Try.prog.info? 33).map (·.size) = some (bc s.data).length by rw [bc_length, hs]; exact size32)
  have HEQ := Lib.hid (show ∀ w, (binOp .eql 33 (.agg (bc s.data).toArray) (.agg (bc s.data).toArray)).run Try.prog w = .ok (.bool true) w from fun w => by rw [eqlBlk s.data s.data hs hs, decide_eq_true rfl])
  have HEH := Lib.hid (show ∀ w, (binOp .eql 53 (.agg #[.int .u32 (s.hs : Int), .int .i64 s.hst]) (.agg #[.int .u32 (s.hs : Int), .int .i64 s.hst])).run Try.prog w = .ok (.bool true) w from fun w => by rw [eqlH]; simp)
  clear hs
  generalize (scell s).toArray = X at *
  obtain ⟨k, bl, x, hs, hst, gv⟩ := s
  simp only at HN HN2 HRA HRB HSL HEQ HEH
  generalize hW : (w.alloc (.cells X 57)).alloc (.cells X 74) = W1 at *
  have HW := Lib.hid hW
  obtain ⟨p, hp⟩ : ∃ p, p = w.heap.size := ⟨_, rfl⟩
  obtain ⟨q, hq⟩ : ∃ q, q = w.heap.size + 1 := ⟨_, rfl⟩
  rw [← hp] at HXa HRA
  rw [← hq] at HXb HRB
  have HP := Lib.hid hp
  have HQ := Lib.hid hq
  have a0 := (cell_at HXa.out 0).trans HN.out.1
  have a1 := (cell_at HXa.out 1).trans HN.out.2
  have a2 := (cell_at HXa.out 258).trans HN2.out.1
  have a3 := (cell_at HXa.out 259).trans HN2.out.2.1
  have a4 := (cell_at HXa.out 260).trans HN2.out.2.2
  have b0 := (cell_at HXb.out 0).trans HN.out.1
  have b1 := (cell_at HXb.out 1).trans HN.out.2
  have b2 := (cell_at HXb.out 258).trans HN2.out.1
  have b3 := (cell_at HXb.out 259).trans HN2.out.2.1
  have b4 := (cell_at HXb.out 260).trans HN2.out.2.2
  clear hW hp hq
  go_enter Try.func26, Try.ntmps26
  go_upto_region 1 with fail
  rw [HW.out, ← HQ.out, ← HP.out]
  have e0 : ((k : Int) == (k : Int)) = true := by simp
  have e1 : (bl == bl) = true := by simp
  have e2 : (gv == gv) = true := by simp
  go_wp2_with (first | (refine wpList_load_midG 33 _ rfl p 2 rfl (bc x) _ HRA.out Try.underlying33 rfl HSL.out (by rfl) ?_) | (refine wpList_load_midG 33 _ rfl q 2 rfl (bc x) _ HRB.out Try.underlying33 rfl HSL.out (by rfl) ?_) | (refine wpList_eqG .eql 33 _ _ _ rfl (bc x).toArray (bc x).toArray rfl rfl (fun _ _ => gB _ _ _ _ _ _) (HEQ.out _) (by rfl) ?_) | (refine wpList_eqG .eql 53 _ _ _ rfl #[.int .u32 (hs : Int), .int .i64 hst] #[.int .u32 (hs : Int), .int .i64 hst] rfl rfl (fun _ _ => gH _ _ _ _ _ _) (HEH.out _) (by rfl) ?_))
  go_ret
  exact ⟨rfl, HG.out⟩
#print axioms step_same
end Go.Proofs.Ytokehhegomiciaa
