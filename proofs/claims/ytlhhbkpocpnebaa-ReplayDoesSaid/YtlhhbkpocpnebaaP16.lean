/- Literals of transactions; the chapter's examples, plainly. -/
import Derived.Test.YtlhhbkpocpnebaaP15
import Derived.Test.YtlhhbkpocpnebaaP12
set_option linter.unusedVariables false
set_option linter.unusedSimpArgs false
namespace Go.Proofs.Ytlhhbkpocpnebaa
open Go.RowKit Go.Maps

theorem wpList_bs_copy {w : World} {ops : Array Oper} {rest : List Oper} {o : Oper} {a : Act} {Q : Exit → Act → World → Prop} (hgd : o.guard = none) (x : Operand) (ho : o.op = .buildSlice 33 1 #[(0, x)]) (c : Cp) (hc : c.2.length = 256) (hx : a.eval x = .agg (ccell c).toArray)
    (hK : ∀ w' g, CRow w' (.slice (some ⟨g, 0, none⟩) 1 1) [c] → Grow w w' → wpList Try.prog ops Q rest (a.put o.dst (.slice (some ⟨g, 0, none⟩) 1 1)) w') : wpList Try.prog ops Q (o :: rest) a w := by
  refine wpList_buildSlice hgd _ 1 _ ho (by simp only [List.map_toArray, List.map_cons, List.map_nil, hx]; exact buildSlice_copy c hc w) (hK _ _ ?_ (Grow.alloc _ _))
  exact crow_one (W := w) (S := []) (v := .slice (some ⟨w.heap.size, 0, none⟩) 1 1) ⟨rfl, heap_alloc_last _ _, by simp, Nat.le_refl _⟩ hc
theorem mk_int1 (z : Int) (w : World) : (Instr.buildSlice 53 1 #[(0, .int .i64 z)]).run Try.prog w = .ok (.slice (some ⟨w.heap.size, 0, none⟩) 1 1) (w.alloc (.cells #[.int .i64 z] 3)) := by kernel_rfl
theorem irow_one (w : World) (z : Int) : IRow (w.alloc (.cells #[.int .i64 z] 3)) (.slice (some ⟨w.heap.size, 0, none⟩) 1 1) [z] :=
  ⟨fun c hc => by obtain ⟨y, _, rfl⟩ := List.mem_map.1 hc; rfl, by simp [icell], .inr ⟨w.heap.size, 1, _, rfl, Nat.zero_le _, heap_alloc_last _ _, by simp, by unfold maxLen; simp, by simp, by simp [icell]⟩⟩
theorem wpList_bs_int {w : World} {ops : Array Oper} {rest : List Oper} {o : Oper} {a : Act} {Q : Exit → Act → World → Prop} (hgd : o.guard = none) (x : Operand) (ho : o.op = .buildSlice 53 1 #[(0, x)]) (z : Int) (hx : a.eval x = .int .i64 z)
    (hK : ∀ w' g, IRow w' (.slice (some ⟨g, 0, none⟩) 1 1) [z] → Grow w w' → wpList Try.prog ops Q rest (a.put o.dst (.slice (some ⟨g, 0, none⟩) 1 1)) w') : wpList Try.prog ops Q (o :: rest) a w :=
  wpList_buildSlice hgd _ 1 _ ho (by simp only [List.map_toArray, List.map_cons, List.map_nil, hx]; exact mk_int1 z w) (hK _ _ (irow_one w z) (Grow.alloc _ _))
theorem mk_tr3 (x y z : TV) (w : World) : (Instr.buildSlice 25 3 #[(0, .agg (tcell x).toArray), (1, .agg (tcell y).toArray), (2, .agg (tcell z).toArray)]).run Try.prog w = .ok (.slice (some ⟨w.heap.size, 0, none⟩) 3 3) (w.alloc (.cells (tcell x ++ (tcell y ++ tcell z)).toArray 55)) := by kernel_rfl
theorem row_tr (w : World) (xs : List TV) (hl : xs.length ≤ 100) : Row (w.alloc (.cells (xs.map tcell).flatten.toArray 55)) 55 3 (.slice (some ⟨w.heap.size, 0, none⟩) xs.length xs.length) (xs.map tcell) := by
  have h3 : ∀ c ∈ xs.map tcell, c.length = 3 := by intro c hc; obtain ⟨x, _, rfl⟩ := List.mem_map.1 hc; rfl
  have hf : (xs.map tcell).flatten.length = xs.length * 3 := by rw [flatten_length 3 _ h3, List.length_map]
  exact ⟨h3, by rw [hf, List.length_map], .inr ⟨w.heap.size, xs.length, _, by rw [List.length_map], Nat.zero_le _, heap_alloc_last _ _, by simp, by unfold maxLen; omega, by rw [List.size_toArray, hf], by rw [List.toList_toArray, List.length_map, ← hf]; exact List.take_length⟩⟩
theorem wpList_bs_tr3 {w : World} {ops : Array Oper} {rest : List Oper} {o : Oper} {a : Act} {Q : Exit → Act → World → Prop} (hgd : o.guard = none) (p q r : Operand) (ho : o.op = .buildSlice 25 3 #[(0, p), (1, q), (2, r)]) (x y z : TV) (hx : a.eval p = .agg (tcell x).toArray) (hy : a.eval q = .agg (tcell y).toArray) (hz : a.eval r = .agg (tcell z).toArray) (hat : TAt w x ∧ TAt w y ∧ TAt w z)
    (hK : ∀ w' g, TRow w' (.slice (some ⟨g, 0, none⟩) 3 3) [x, y, z] → Grow w w' → wpList Try.prog ops Q rest (a.put o.dst (.slice (some ⟨g, 0, none⟩) 3 3)) w') : wpList Try.prog ops Q (o :: rest) a w := by
  refine wpList_buildSlice hgd _ 3 _ ho (by simp only [List.map_toArray, List.map_cons, List.map_nil, hx, hy, hz]; exact mk_tr3 x y z w) (hK _ _ ⟨row_tr w [x, y, z] (by simp), fun t ht => ?_⟩ (Grow.alloc _ _))
  simp only [List.mem_cons, List.not_mem_nil, or_false] at ht
  rcases ht with rfl | rfl | rfl
  · exact hat.1.grow (Grow.alloc _ _)
  · exact hat.2.1.grow (Grow.alloc _ _)
  · exact hat.2.2.grow (Grow.alloc _ _)
theorem wpList_bs_tr1 {w : World} {ops : Array Oper} {rest : List Oper} {o : Oper} {a : Act} {Q : Exit → Act → World → Prop} (hgd : o.guard = none) (p : Operand) (ho : o.op = .buildSlice 25 1 #[(0, p)]) (x : TV) (hx : a.eval p = .agg (tcell x).toArray) (hat : TAt w x)
    (hK : ∀ w' g, TRow w' (.slice (some ⟨g, 0, none⟩) 1 1) [x] → Grow w w' → wpList Try.prog ops Q rest (a.put o.dst (.slice (some ⟨g, 0, none⟩) 1 1)) w') : wpList Try.prog ops Q (o :: rest) a w := by
  refine wpList_buildSlice hgd _ 1 _ ho (by simp only [List.map_toArray, List.map_cons, List.map_nil, hx]; exact buildSlice_trans x w) (hK _ _ ⟨?_, fun t ht => ?_⟩ (Grow.alloc _ _))
  · exact row_tr w [x] (by simp)
  · rw [List.mem_singleton.1 ht]; exact hat.grow (Grow.alloc _ _)
/-- the examples' blocks -/
def aB : Blk := zeroB.set 0 1
def bB : Blk := zeroB.set 0 2
theorem aB_len : aB.length = 256 := by unfold aB; rw [List.length_set]; exact zeroB_len
theorem bB_len : bB.length = 256 := by unfold bB; rw [List.length_set]; exact zeroB_len
def tC (c : Cp) : PT := ⟨0, [c], []⟩
def tR (z : Int) : PT := ⟨0, [], [z]⟩
theorem tC_ok {c : Cp} (h : CpOk c) : (tC c).ok := ⟨fun d hd => (by rw [List.mem_singleton.1 hd]; exact h), (fun r hr => absurd hr (by simp [tC])), by simp [tC]⟩
theorem tR_ok {z : Int} (h : IntOk z) : (tR z).ok := ⟨(fun d hd => absurd hd (by simp [tR])), fun r hr => (by rw [List.mem_singleton.1 hr]; exact h), by simp [tR]⟩
theorem rising_one {p : Int → Bool} (z : Int) (h : ∀ i, p i = decide (i = z)) : Rising p [z] := ⟨by simp, fun i => by rw [h i]; simp⟩
theorem rising_none {p : Int → Bool} (h : ∀ i, p i = false) : Rising p [] := ⟨by simp, fun i => by rw [h i]; simp⟩
theorem ex_one (x y : Blk) : ∀ i, HasM (ov [tC (5, x), tR 5, tC (6, y)]) i = decide (i = 6) := by
  intro i
  simp only [ov, ovT, tC, tR, putsG, delsG, List.foldl_cons, List.foldl_nil, HasM, putG, delG]
  by_cases h6 : i = 6
  · simp [h6]
  · by_cases h5 : i = 5
    · simp [h5]
    · simp [h6, h5]
theorem ex_two (x y : Blk) : ∀ i, HasM (ov [tC (5, x), tR 5, tC (5, y)]) i = decide (i = 5) := by
  intro i
  simp only [ov, ovT, tC, tR, putsG, delsG, List.foldl_cons, List.foldl_nil, HasM, putG, delG]
  by_cases h5 : i = 5
  · simp [h5]
  · simp [h5]
theorem ex_none (x : Blk) : ∀ i, HasM (ov [⟨0, [(5, x)], [5]⟩]) i = false := by
  intro i
  simp only [ov, ovT, putsG, delsG, List.foldl_cons, List.foldl_nil, HasM, putG, delG]
  by_cases h5 : i = 5
  · simp [h5]
  · simp [h5]
/-- the examples' overlays, walked -/
theorem one_ok {w : World} {v : Value} {xs : List TV} (h : TRow w v xs) (x y : Blk) (ht : xs.map (·.t) = [tC (5, x), tR 5, tC (6, y)]) : Calls Try.prog 14 #[v] w fun e w' => ∃ v', e = .returned v' ∧ CRow w' v' [(6, y)] ∧ Grow w w' := by
  have hl : xs.length = 3 := by have := congrArg List.length ht; simpa using this
  refine (overlay_ok h (by omega) (by rw [ht]; simp [copyN, tC, tR])).mono fun e w' hp => ?_
  obtain ⟨v', zs, he, hr, hc, hg, _⟩ := hp
  rw [ht] at hr hc
  obtain rfl := hr.unique (rising_one 6 (ex_one x y))
  refine ⟨v', he, ?_, hg⟩
  have : outL (ov [tC (5, x), tR 5, tC (6, y)]) [6] = [(6, y)] := by simp [outL, ov, ovT, tC, tR, putsG, delsG, putG, delG]
  rwa [this] at hc
theorem two_ok {w : World} {v : Value} {xs : List TV} (h : TRow w v xs) (x y : Blk) (ht : xs.map (·.t) = [tC (5, x), tR 5, tC (5, y)]) : Calls Try.prog 14 #[v] w fun e w' => ∃ v', e = .returned v' ∧ CRow w' v' [(5, y)] ∧ Grow w w' := by
  have hl : xs.length = 3 := by have := congrArg List.length ht; simpa using this
  refine (overlay_ok h (by omega) (by rw [ht]; simp [copyN, tC, tR])).mono fun e w' hp => ?_
  obtain ⟨v', zs, he, hr, hc, hg, _⟩ := hp
  rw [ht] at hr hc
  obtain rfl := hr.unique (rising_one 5 (ex_two x y))
  refine ⟨v', he, ?_, hg⟩
  have : outL (ov [tC (5, x), tR 5, tC (5, y)]) [5] = [(5, y)] := by simp [outL, ov, ovT, tC, tR, putsG, delsG, putG, delG]
  rwa [this] at hc
theorem none_ok {w : World} {v : Value} {xs : List TV} (h : TRow w v xs) (x : Blk) (ht : xs.map (·.t) = [⟨0, [(5, x)], [5]⟩]) : Calls Try.prog 14 #[v] w fun e w' => ∃ a c, e = .returned (.slice a 0 c) ∧ Grow w w' := by
  have hl : xs.length = 1 := by have := congrArg List.length ht; simpa using this
  refine (overlay_ok h (by omega) (by rw [ht]; simp [copyN])).mono fun e w' hp => ?_
  obtain ⟨v', zs, he, hr, hc, hg, _⟩ := hp
  rw [ht] at hr hc
  obtain rfl := hr.unique (rising_none (ex_none x))
  obtain ⟨a, c, rfl⟩ := CRow.len hc
  exact ⟨a, c, he, hg⟩
#print axioms none_ok
end Go.Proofs.Ytlhhbkpocpnebaa
