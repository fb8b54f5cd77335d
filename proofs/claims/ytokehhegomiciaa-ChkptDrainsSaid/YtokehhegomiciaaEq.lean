/- Blocks and copies compared. -/
import Derived.Test.YtokehhegomiciaaAm
import Derived.ChangeKeysEq
import Derived.Laws.StructEq
set_option linter.unusedVariables false
set_option linter.unusedSimpArgs false
namespace Go.Proofs.Ytokehhegomiciaa
open Go.RowKit

theorem info32b : (Try.prog.info? 33).map (fun i => (i.zero, i.size, i.bytes)) = some (some (.agg (bc zeroB).toArray), 256, 256) := by kernel_rfl
theorem plain5 : Try.prog.plainKey 5 = true := by kernel_rfl
theorem cells5 : Try.prog.cellsOf 5 = 1 := by kernel_rfl
theorem info5 : (Try.prog.info? 5).map (fun i => (i.zero, i.size, i.bytes)) = some (some (.int .u8 0), 1, 1) := by kernel_rfl
theorem eqItems_any (x y : Blk) (d : Nat) (w : World) : ∀ is : List Nat, (∀ i ∈ is, i < x.length ∧ i < y.length) → ∃ b, (Op.eqItems (d + 1) 5 (Try.prog.cellsOf 5) (bc x).toArray (bc y).toArray is).run Try.prog w = .ok b w ∧ (b = true ↔ ∀ i ∈ is, x[i]? = y[i]?) := by
  intro is
  induction is with
  | nil => intro _; exact ⟨true, by simp [Op.eqItems], by simp⟩
  | cons i is ih =>
    intro h
    have hi := h i (by simp)
    have hgx : (bc x).toArray[i * Try.prog.cellsOf 5]? = some (.int .u8 ((x[i]'hi.1 : Nat) : Int)) := by
      rw [cells5, Nat.mul_one]; unfold bc; simp [hi.1]
    have hgy : (bc y).toArray[i * Try.prog.cellsOf 5]? = some (.int .u8 ((y[i]'hi.2 : Nat) : Int)) := by
      rw [cells5, Nat.mul_one]; unfold bc; simp [hi.2]
    have hp := run_part_plain (P := Try.prog) w plain5 hgx
    have hq := run_part_plain (P := Try.prog) w plain5 hgy
    obtain ⟨b, hb, hb2⟩ := ih (fun j hj => h j (by simp [hj]))
    simp only [Op.eqItems, Sem.run_bind, hp, hq, Result.andThen_ok, run_equalIn_int w d 5 .u8 .u8 _ _ Try.underlying5]
    by_cases e : x[i]'hi.1 = y[i]'hi.2
    · refine ⟨b, ?_, ?_⟩
      · rw [show (((x[i]'hi.1 : Nat) : Int) == ((y[i]'hi.2 : Nat) : Int)) = true by rw [e]; simp]
        simpa using hb
      · rw [hb2]
        simp only [List.mem_cons, forall_eq_or_imp]
        exact ⟨fun h2 => ⟨by rw [List.getElem?_eq_getElem hi.1, List.getElem?_eq_getElem hi.2, e], h2⟩, fun h2 => h2.2⟩
    · refine ⟨false, ?_, ?_⟩
      · rw [show (((x[i]'hi.1 : Nat) : Int) == ((y[i]'hi.2 : Nat) : Int)) = false by simp; omega]
        simp
      · simp only [Bool.false_eq_true, List.mem_cons, forall_eq_or_imp, false_iff, not_and]
        intro h2
        rw [List.getElem?_eq_getElem hi.1, List.getElem?_eq_getElem hi.2] at h2
        exact absurd (Option.some.inj h2) e
theorem equalB (x y : Blk) (hx : x.length = 256) (hy : y.length = 256) (d : Nat) (w : World) : (Op.equalIn (d + 2) 33 (.agg (bc x).toArray) (.agg (bc y).toArray)).run Try.prog w = .ok (decide (x = y)) w := by
  obtain ⟨i0, hi, _, _, _⟩ := info_parts info5
  rw [run_equalIn_array w (d + 1) _ _ Try.underlying33 hi]
  obtain ⟨b, hb, hb2⟩ := eqItems_any x y d w (List.range 256) (fun i hi => by have := List.mem_range.1 hi; omega)
  have he : b = decide (x = y) := by
    rw [Bool.eq_iff_iff, hb2, decide_eq_true_iff]
    constructor
    · intro h
      apply List.ext_getElem?
      intro i
      by_cases hi : i < 256
      · exact h i (List.mem_range.2 hi)
      · rw [List.getElem?_eq_none (by omega), List.getElem?_eq_none (by omega)]
    · intro h i _; rw [h]
  rw [← he]; exact hb
theorem guardTB : Try.prog.eqGuardType Try.prog.depth 33 = false := by kernel_rfl
theorem guardTC : Try.prog.eqGuardType Try.prog.depth 35 = false := by kernel_rfl
theorem neqBlk (x y : Blk) (hx : x.length = 256) (hy : y.length = 256) (w : World) : (binOp .neq 33 (.agg (bc x).toArray) (.agg (bc y).toArray)).run Try.prog w = .ok (.bool (!decide (x = y))) w := by
  rw [run_neq_struct, equalB x y hx hy 9998]; rfl
theorem gB (op : BinOp) (x y : Operand) (p q : Array Value) (w : World) : (eqGuard op 33 x y (.agg p) (.agg q)).run Try.prog w = .ok () w := run_eqGuard_agg w op _ x y p q guardTB
theorem gC (op : BinOp) (x y : Operand) (p q : Array Value) (w : World) : (eqGuard op 35 x y (.agg p) (.agg q)).run Try.prog w = .ok () w := run_eqGuard_agg w op _ x y p q guardTC
theorem underC : Try.prog.underlying 35 = some (.struct (Try.prog.fieldsOf 35)) := by kernel_rfl
theorem plain3 : Try.prog.plainKey 3 = true := by kernel_rfl
theorem partB (c : Cp) (hc : c.2.length = 256) (w : World) : (part 33 (ccell c).toArray 1).run Try.prog w = .ok (.agg (bc c.2).toArray) w := by
  obtain ⟨i0, hi, hz0, hz1, hz2⟩ := info_parts info32b
  have he : List.take 256 (ccell c).tail = bc c.2 := by
    show List.take 256 (bc c.2) = bc c.2
    exact List.take_of_length_le (by rw [bc_length, hc]; exact Nat.le_refl _)
  unfold part
  simp only [isAgg, Sem.run_bind, run_underlying Try.underlying33, Result.andThen_ok, Sem.run_pure, sizeOf, typeInfo]
  simp [hi, hz1, he]
theorem part0 (c : Cp) (w : World) : (part 3 (ccell c).toArray 0).run Try.prog w = .ok (.int .i64 c.1) w := run_part_plain w plain3 rfl
theorem fieldsC : (Try.prog.fieldsOf 35).toList.map (fun f => (decide (f.name ≠ "_"), f.type, f.offset)) = [(true, 3, 0), (true, 33, 1)] := by kernel_rfl
theorem held40 : Try.prog.stoodInHeld 35 = false := by kernel_rfl
theorem eqFields_two {P : Program} (D : Nat) (xs ys : Array Value) (f0 f1 : Field) (w : World) (t0 t1 : TypeId) (o0 o1 : Nat) (h0 : decide (f0.name ≠ "_") = true ∧ f0.type = t0 ∧ f0.offset = o0) (h1 : decide (f1.name ≠ "_") = true ∧ f1.type = t1 ∧ f1.offset = o1) (u0 v0 u1 v1 : Value) (b0 b1 : Bool)
    (p0 : (part t0 xs o0).run P w = .ok u0 w) (q0 : (part t0 ys o0).run P w = .ok v0 w) (p1 : (part t1 xs o1).run P w = .ok u1 w) (q1 : (part t1 ys o1).run P w = .ok v1 w)
    (e0 : (Op.equalIn D t0 u0 v0).run P w = .ok b0 w) (e1 : (Op.equalIn D t1 u1 v1).run P w = .ok b1 w) : (Op.eqFields D xs ys [f0, f1]).run P w = .ok (b0 && b1) w := by
  obtain ⟨n0, rfl, rfl⟩ := h0
  obtain ⟨n1, rfl, rfl⟩ := h1
  unfold Op.eqFields
  rw [if_pos (of_decide_eq_true n0)]
  simp only [Sem.run_bind, p0, q0, e0, Result.andThen_ok]
  cases b0 with
  | false => simp
  | true =>
    simp only [Bool.not_true, Bool.false_eq_true, if_false]
    unfold Op.eqFields
    rw [if_pos (of_decide_eq_true n1)]
    simp only [Sem.run_bind, p1, q1, e1, Result.andThen_ok]
    cases b1 <;> simp [Op.eqFields]
theorem equalD (a b : Cp) (ha : a.2.length = 256) (hb : b.2.length = 256) (d : Nat) (w : World) : (Op.equalIn (d + 3) 35 (.agg (ccell a).toArray) (.agg (ccell b).toArray)).run Try.prog w = .ok (decide (a = b)) w := by
  have hd : decide (a = b) = ((a.1 == b.1) && decide (a.2 = b.2)) := by
    rw [Bool.eq_iff_iff, decide_eq_true_iff, Bool.and_eq_true, beq_iff_eq, decide_eq_true_iff]
    exact ⟨fun h => ⟨congrArg Prod.fst h, congrArg Prod.snd h⟩, fun h => Prod.ext h.1 h.2⟩
  rw [run_equalIn_struct w (d + 2) _ _ _ underC held40, hd]
  have hf := fieldsC
  generalize (Try.prog.fieldsOf 35).toList = fs at *
  rcases fs with _ | ⟨f0, _ | ⟨f1, _ | ⟨f2, r⟩⟩⟩
  · exact absurd (congrArg List.length hf) (by simp only [List.map_nil, List.length_nil, List.length_cons]; omega)
  · exact absurd (congrArg List.length hf) (by simp only [List.map_cons, List.map_nil, List.length_nil, List.length_cons]; omega)
  · simp only [List.map_cons, List.map_nil, List.cons.injEq, and_true, Prod.mk.injEq] at hf
    exact eqFields_two (d + 2) _ _ f0 f1 w 3 33 0 1 hf.1 hf.2 (.int .i64 a.1) (.int .i64 b.1) (.agg (bc a.2).toArray) (.agg (bc b.2).toArray) _ _ (part0 a w) (part0 b w) (partB a ha w) (partB b hb w) (run_equalIn_int w (d + 1) 3 .i64 .i64 _ _ Try.underlying3) (equalB a.2 b.2 ha hb d w)
  · exact absurd (congrArg List.length hf) (by simp only [List.length_map, List.length_cons, List.length_nil]; omega)
theorem equalC (a b : Cp) (ha : a.2.length = 256) (hb : b.2.length = 256) (w : World) : (Op.equalIn 10000 35 (.agg (ccell a).toArray) (.agg (ccell b).toArray)).run Try.prog w = .ok (decide (a = b)) w := equalD a b ha hb 9997 w
theorem neqC (a b : Cp) (ha : a.2.length = 256) (hb : b.2.length = 256) (w : World) : (binOp .neq 35 (.agg (ccell a).toArray) (.agg (ccell b).toArray)).run Try.prog w = .ok (.bool (!decide (a = b))) w := by
  rw [run_neq_struct, equalC a b ha hb]; rfl
theorem eqlC (a b : Cp) (ha : a.2.length = 256) (hb : b.2.length = 256) (w : World) : (binOp .eql 35 (.agg (ccell a).toArray) (.agg (ccell b).toArray)).run Try.prog w = .ok (.bool (decide (a = b))) w := by
  rw [run_eql_struct, equalC a b ha hb]; rfl
end Go.Proofs.Ytokehhegomiciaa
