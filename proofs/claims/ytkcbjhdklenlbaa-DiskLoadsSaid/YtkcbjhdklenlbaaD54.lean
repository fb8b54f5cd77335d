/- The law DiskLoads: the image that is built; Load that is refused; the plain side. -/
import Derived.Test.YtkcbjhdklenlbaaD53
import Derived.Test.YtkcbjhdklenlbaaOpen3
set_option linter.unusedVariables false
set_option linter.unusedSimpArgs false
namespace Go.Proofs.Ytkcbjhdklenlbaa
open Go.RowKit

theorem buildSlice_oneB (c : List Value) (hc : c.length = 256) (w : World) : (Instr.buildSlice 24 1 #[(0, .agg c.toArray)]).run Try.prog w = .ok (.slice (some ⟨w.heap.size, 0, none⟩) 1 1) (w.alloc (.cells c.toArray 32)) := by
  obtain ⟨i0, hi, hz0, hz1, hz2⟩ := info_parts info32b
  have hfill : Instr.fill (fun i => some (i * 256, 256)) ((Array.range 256).map ((bc zeroB).toArray[· % (bc zeroB).toArray.size]!)) [(0, .agg c.toArray)] = some c.toArray := by
    rw [fill_cons (off := 0 * 256) (size := 256) rfl (by show c.toArray.size = 256; rw [List.size_toArray, hc]) (by simp), Instr.fill]
    congr 2
    rw [Nat.zero_mul]
    exact setMany_all _ _ (by show _ = c.toArray.toList.length; simp [hc])
  unfold Instr.buildSlice
  simp only [Sem.run_bind, run_underlying Try.underlying24, Result.andThen_ok, sizeOf, typeInfo, hi, hz1, zeroValue, hz0]
  simp [hi, hz1, hz0]
  rw [show (Value.agg (bc zeroB).toArray).cells = (bc zeroB).toArray from rfl, hfill]
  simp [newRow, go_sem]
/-- a row of one block, in a walk -/
theorem wpList_one_blk {ops : Array Oper} {rest : List Oper} {o : Oper} {a : Act} {w : World} {Q : Exit → Act → World → Prop} (hgd : o.guard = none) (x : Operand) (ho : o.op = .buildSlice 24 1 #[(0, x)]) (X : List Value) (hl : X.length = 256) (hx : a.eval x = .agg X.toArray)
    (h : wpList Try.prog ops Q rest (a.put o.dst (.slice (some ⟨w.heap.size, 0, none⟩) 1 1)) (w.alloc (.cells X.toArray 32))) : wpList Try.prog ops Q (o :: rest) a w := by
  refine wpList_plain hgd fun K' hK' => ?_
  unfold Oper.wp
  have hrun : (execOp a.eval o).run Try.prog w = .ok (.value (.slice (some ⟨w.heap.size, 0, none⟩) 1 1)) (w.alloc (.cells X.toArray 32)) := by
    unfold execOp
    simp only [ho, List.map_toArray, List.map_cons, List.map_nil, hx, Sem.run_bind, buildSlice_oneB X hl, Result.andThen_ok, Sem.run_pure]
  rw [hrun]
  exact hK' _ _ h
/-- append of one block, in a walk -/
theorem wpList_append_blk {ops : Array Oper} {rest : List Oper} {o : Oper} {a : Act} {w : World} {Q : Exit → Act → World → Prop} (hgd : o.guard = none) (s x : Operand)
    (ho : o.op = .call { callee := .builtin .append, args := #[s, x], argTypes := #[24, 24] })
    (v : Value) (l : List (List Value)) (hs : a.eval s = v) (hrow : Row w 32 256 v l) (ad : Addr) (c : Nat) (news : List Value) (hx : a.eval x = .slice (some ad) 1 c) (hl : news.length = 256) (hnews : ∀ j u, news[j]? = some u → w.cell? (ad.add j) = some u) (h1 : ∀ u ∈ news, u.oneCell' = true)
    (hlen : l.length + 1 ≤ 1000000) (hT : ∀ v' w', Row w' 32 256 v' (l ++ [news]) → (v'.ownBlock = v.ownBlock ∨ v'.ownBlock = some w.heap.size) → Touch v.ownBlock.toList w w' → wpList Try.prog ops Q rest (a.put o.dst v') w') : wpList Try.prog ops Q (o :: rest) a w := by
  obtain ⟨i0, hi, hz0, hz1, hz2⟩ := info_parts info32b
  refine wpList_plain hgd fun K' hK' => ?_
  obtain ⟨v', w', hr, h2, h3, h4, h5⟩ := run_append_own_at (P := Try.prog) w 0 24 o.type 32 i0 _ 256 256 Try.underlying24 hi hz0 hz1 hz2 (by show (bc zeroB).toArray.size = 256; exact zero_size) (by omega) v l.length l.flatten hrow.2 ad 1 c news (by omega) hnews h1 (by unfold maxLen; omega)
    (by omega) (Nat.zero_le _)
  unfold Oper.wp
  have hrun : (execOp a.eval o).run Try.prog w = .ok (.value v') w' := by
    unfold execOp
    simp only [ho, resolve, invoke, builtin, Sem.run_bind, Sem.run_pure, Result.andThen_ok, List.map_toArray, List.map_cons, List.map_nil, hs, hx, hr]
  rw [hrun]
  refine hK' _ _ (hT v' w' ⟨?_, ?_⟩ h5 (Touch.grown h3 (fun k e => by simp [e])))
  · intro d hd
    rcases List.mem_append.1 hd with h | h
    · exact hrow.1 d h
    · rw [List.mem_singleton.1 h]; exact hl
  · rw [List.flatten_append, List.length_append]
    simpa using h2
theorem load_no {w : World} {p : Option Addr} {n cap : Nat} (hn : n = 0 ∨ 2048 < n) (hm : n ≤ 9223372036854775807) : Calls Try.prog 13 #[.slice p n cap] w fun e w' => e = .returned (.tuple #[.pointer none, .int .i64 2]) ∧ w = w' := by
  have HM := Lib.hid (may_no (n : Int) (by omega))
  go_enter Try.func13, Try.ntmps13
  go_wp2_with fail
  refine (HM.out _).mono ?_
  rintro e w' ⟨rfl, rfl⟩
  go_wp2_with fail
  go_ret2
  exact ⟨rfl, rfl⟩
#print axioms load_no
/-- a block whose first byte is n, and noughts -/
def oneB (n : Nat) : Blk := n :: List.replicate 255 0
theorem oneB_length (n : Nat) : (oneB n).length = 256 := by unfold oneB; rw [List.length_cons, List.length_replicate]
theorem built7 : Try.prog.built 32 [(0, .int .u8 7)] = some (bc (oneB 7)).toArray := by kernel_rfl
theorem built8 : Try.prog.built 32 [(0, .int .u8 8)] = some (bc (oneB 8)).toArray := by kernel_rfl
theorem built9 : Try.prog.built 32 [(0, .int .u8 9)] = some (bc (oneB 9)).toArray := by kernel_rfl
/-- the image so far -/
def img (fs : List Nat) (k : Nat) : List (List Value) := (fs.take k).map fun f => bc (fillB f)
theorem img_zero (fs : List Nat) : img fs 0 = [] := by unfold img; simp
theorem img_succ {fs : List Nat} {k f : Nat} (h : fs[k]? = some f) : img fs (k + 1) = img fs k ++ [bc (fillB f)] := by
  unfold img
  have hk := (List.getElem?_eq_some_iff.1 h).1
  have hv := (List.getElem?_eq_some_iff.1 h).2
  rw [List.take_succ_eq_append_getElem hk, List.map_append, hv]
  rfl
theorem img_length {fs : List Nat} {k : Nat} (h : k ≤ fs.length) : (img fs k).length = k := by unfold img; simp; omega
theorem img_all (fs : List Nat) : img fs fs.length = (fs.map fillB).map bc := by unfold img; rw [List.take_length, List.map_map]; rfl
theorem Fair.load (l : List Blk) : Fair 0 (loadD l) := ⟨rfl, fun p h => (by cases h), Nat.le_refl _, ⟨Int.le_refl _, Int.le_refl _⟩, ⟨Int.le_refl _, by show (0 : Int) ≤ _; omega⟩⟩
#print axioms built7
end Go.Proofs.Ytkcbjhdklenlbaa
