/- Laws of the plain walk on one operation, in a fenced walk and in a round of a range over a function. -/
import Derived.Test.YtieknecbheeekaaDoorA3
import Derived.Test.YtieknecbheeekaaDoorR3
set_option linter.unusedVariables false
set_option linter.unusedSimpArgs false
namespace Go.Proofs.YtieknecbheeekaaDoor
open Go.RowKit Go.Maps Go.Shelf
section
variable {P : Program} {ops : Array Oper} {n0 : Nat}
/-- a law of the plain walk on one operation, in a fenced walk -/
theorem wpListIn_viaT {o : Oper} {a : Act} {w : World} {Q : Exit → Act → World → Prop} {rest : List Oper} (T : Act → World → Prop) (hlaw : ∀ Q : Exit → Act → World → Prop, (∀ a1 w1, T a1 w1 → wpList P ops Q [] a1 w1) → wpList P ops Q [o] a w) (h : ∀ a1 w1, T a1 w1 → wpListIn Fence.wide n0 P ops Q rest a1 w1) : wpListIn Fence.wide n0 P ops Q (o :: rest) a w := by
  obtain ⟨Q0, hQ0⟩ : ∃ Q0 : Exit → Act → World → Prop, Q0 = fun e a' w' => match e with | .normal => wpListIn Fence.wide n0 P ops Q rest a' w' | .outgrown => False | e => Q e a' w' := ⟨_, rfl⟩
  have q1 : ∀ a' w', Q0 .normal a' w' → wpListIn Fence.wide n0 P ops Q rest a' w' := fun a' w' h => by rw [hQ0] at h; exact h
  have q2 : ∀ a' w', ¬ Q0 .outgrown a' w' := fun a' w' h => by rw [hQ0] at h; exact h
  have q3 : ∀ c a' w', Q0 (.panic c) a' w' → Q (.panic c) a' w' := fun c a' w' h => by rw [hQ0] at h; exact h
  have h1 := hlaw Q0 (fun a1 w1 ht => by rw [hQ0]; exact h a1 w1 ht)
  clear hQ0 hlaw h
  unfold wpList at h1
  unfold wpListIn
  split at h1
  · rename_i hw
    rw [if_pos hw]
    rcases h1 with h1 | ⟨_, _, _, h1⟩
    · unfold Oper.wp at h1
      unfold Oper.wpIn
      refine ⟨fun _ _ => trivial, ?_⟩
      rw [show Fence.wide.round = none from rfl, Oper.semAt_none]
      have hd : Fence.wide.depth.isSome = true → 1 ≤ n0 := fun h => (by simp [Fence.wide] at h)
      generalize (execOp a.eval o).run P w = r at *
      cases r with
      | ok x w' =>
        cases x <;> simp only [Oper.upon] at h1 <;> simp only [Oper.uponIn]
        case value v => exact q1 _ _ h1
        case skip => exact q1 _ _ h1
        case defer d => exact q1 _ _ h1
        case enter f args =>
          refine ⟨hd, callsIn_wide.2 (Calls.mono h1 fun e w'' he => ?_)⟩
          cases e with
          | returned v => exact q1 _ _ he
          | panicked c => exact q3 _ _ _ he
          | outgrown => exact absurd he.choose_spec.choose_spec (q2 _ _)
        case row row args => exact ⟨hd, fun c cs _ => let ⟨v, w', r, s⟩ := h1 c cs; ⟨v, w', q1 _ _ r, stepsIn_wide.2 s⟩⟩
      | halt x w' =>
        cases x <;> simp only [Oper.upon] at h1 <;> simp only [Oper.uponIn]
        case panic v => exact q3 _ _ _ h1
    · exact absurd h1 (q2 _ _)
  · rename_i hw
    rw [if_neg hw]
    exact ⟨fun _ _ => trivial, q1 _ _ h1⟩
/-- a law of the plain walk on one operation, in a fenced walk -/
theorem wpListIn_viaR (l : Nat) {o : Oper} {a : Act} {w : World} {Q : Exit → Act → World → Prop} {rest : List Oper} (hnd : ∀ c, o.op ≠ .defer c) (T : Act → World → Prop) (hlaw : ∀ Q : Exit → Act → World → Prop, (∀ a1 w1, T a1 w1 → wpList P ops Q [] a1 w1) → wpList P ops Q [o] a w) (h : ∀ a1 w1, T a1 w1 → wpListIn (Fence.wide.inRound l) n0 P ops Q rest a1 w1) : wpListIn (Fence.wide.inRound l) n0 P ops Q (o :: rest) a w := by
  obtain ⟨Q0, hQ0⟩ : ∃ Q0 : Exit → Act → World → Prop, Q0 = fun e a' w' => match e with | .normal => wpListIn (Fence.wide.inRound l) n0 P ops Q rest a' w' | .outgrown => False | e => Q e a' w' := ⟨_, rfl⟩
  have q1 : ∀ a' w', Q0 .normal a' w' → wpListIn (Fence.wide.inRound l) n0 P ops Q rest a' w' := fun a' w' h => by rw [hQ0] at h; exact h
  have q2 : ∀ a' w', ¬ Q0 .outgrown a' w' := fun a' w' h => by rw [hQ0] at h; exact h
  have q3 : ∀ c a' w', Q0 (.panic c) a' w' → Q (.panic c) a' w' := fun c a' w' h => by rw [hQ0] at h; exact h
  have h1 := hlaw Q0 (fun a1 w1 ht => by rw [hQ0]; exact h a1 w1 ht)
  clear hQ0 hlaw h
  unfold wpList at h1
  unfold wpListIn
  split at h1
  · rename_i hw
    rw [if_pos hw]
    rcases h1 with h1 | ⟨_, _, _, h1⟩
    · unfold Oper.wp at h1
      unfold Oper.wpIn
      refine ⟨fun _ _ => trivial, ?_⟩
      rw [show (Fence.wide.inRound l).round = some l from rfl, Oper.semAt_some _ _ _ hnd]
      have hd : (Fence.wide.inRound l).depth.isSome = true → 1 ≤ n0 := fun h => (by simp [Fence.wide] at h)
      generalize (execOp a.eval o).run P w = r at *
      cases r with
      | ok x w' =>
        cases x <;> simp only [Oper.upon] at h1 <;> simp only [Oper.uponIn]
        case value v => exact q1 _ _ h1
        case skip => exact q1 _ _ h1
        case defer d => exact q1 _ _ h1
        case enter f args =>
          refine ⟨hd, CallsIn.inRound l (callsIn_wide.2 (Calls.mono h1 fun e w'' he => ?_))⟩
          cases e with
          | returned v => exact q1 _ _ he
          | panicked c => exact q3 _ _ _ he
          | outgrown => exact absurd he.choose_spec.choose_spec (q2 _ _)
        case row row args => exact ⟨hd, fun c cs _ => let ⟨v, w', r, s⟩ := h1 c cs; ⟨v, w', q1 _ _ r, stepsIn_wide.2 s⟩⟩
      | halt x w' =>
        cases x <;> simp only [Oper.upon] at h1 <;> simp only [Oper.uponIn]
        case panic v => exact q3 _ _ _ h1
    · exact absurd h1 (q2 _ _)
  · rename_i hw
    rw [if_neg hw]
    exact ⟨fun _ _ => trivial, q1 _ _ h1⟩
theorem wpListIn_viaRV (l : Nat) {o : Oper} {a : Act} {w : World} {Q : Exit → Act → World → Prop} {rest : List Oper} (hnd : ∀ c, o.op ≠ .defer c) (T : Value → World → Prop) (hlaw : ∀ Q : Exit → Act → World → Prop, (∀ v' w', T v' w' → wpList P ops Q [] (a.put o.dst v') w') → wpList P ops Q [o] a w) (h : ∀ v' w', T v' w' → wpListIn (Fence.wide.inRound l) n0 P ops Q rest (a.put o.dst v') w') : wpListIn (Fence.wide.inRound l) n0 P ops Q (o :: rest) a w :=
  wpListIn_viaR l hnd (fun a1 w1 => ∃ v', T v' w1 ∧ a1 = a.put o.dst v') (fun Q h => hlaw Q (fun v' w' ht => h _ _ ⟨v', ht, rfl⟩)) (fun _ _ ⟨v', ht, e⟩ => by rw [e]; exact h _ _ ht)
theorem wpListIn_via1R (l : Nat) {o : Oper} {a a1 : Act} {w w1 : World} {Q : Exit → Act → World → Prop} {rest : List Oper} (hnd : ∀ c, o.op ≠ .defer c) (hlaw : ∀ Q : Exit → Act → World → Prop, wpList P ops Q [] a1 w1 → wpList P ops Q [o] a w) (h : wpListIn (Fence.wide.inRound l) n0 P ops Q rest a1 w1) : wpListIn (Fence.wide.inRound l) n0 P ops Q (o :: rest) a w :=
  wpListIn_viaR l hnd (fun a' w' => a' = a1 ∧ w' = w1) (fun Q h => hlaw Q (h _ _ ⟨rfl, rfl⟩)) (fun _ _ ⟨e1, e2⟩ => by rw [e1, e2]; exact h)
end
theorem info36 : (Tryd.prog.info? 36).map (fun i => (i.zero, i.size, i.bytes)) = some (some (.agg (acell (0, 0, zeroB)).toArray), 258, 272) := by kernel_rfl
theorem info36z : (Tryd.prog.info? 36).map (fun i => (i.zero, i.size)) = some (some (.agg (acell (0, 0, zeroB)).toArray), 258) := by kernel_rfl
theorem zero36 (w : World) : (zeroValue 36).run Tryd.prog w = .ok (.agg (acell (0, 0, zeroB)).toArray) w := (zero_of_info info36z).1 w
theorem size36 : (Tryd.prog.info? 36).map (·.size) = some 258 := by kernel_rfl
theorem acell_one (x : Nat × Int × Blk) : ∀ u ∈ acell x, u.oneCell' = true := by
  intro u hu
  unfold acell at hu
  simp only [List.mem_cons] at hu
  rcases hu with rfl | rfl | hu
  · rfl
  · rfl
  · exact bc_one _ u hu
theorem asize {x : Nat × Int × Blk} (h : x.2.2.length = 256) : (Tryd.prog.info? 36).map (·.size) = some (acell x).length := by rw [acell_len h]; exact size36
set_option maxRecDepth 100000 in
theorem buildSlice_act (x : Nat × Int × Blk) (hx : x.2.2.length = 256) (w : World) : (Instr.buildSlice 29 1 #[(0, .agg (acell x).toArray)]).run Tryd.prog w = .ok (.slice (some ⟨w.heap.size, 0, none⟩) 1 1) (w.alloc (.cells (acell x).toArray 36)) := by
  obtain ⟨i0, hi, hz0, hz1, hz2⟩ := info_parts info36
  have hl : (acell x).length = 258 := acell_len hx
  have hlz : (acell (0, 0, zeroB)).length = 258 := acell_len zeroB_len
  generalize acell x = c at *
  generalize acell (0, 0, zeroB) = z at *
  have hfill : Instr.fill (fun i => some (i * 258, 258)) ((Array.range 258).map (z.toArray[· % z.toArray.size]!)) [(0, .agg c.toArray)] = some c.toArray := by
    rw [fill_cons (off := 0 * 258) (size := 258) rfl (by show c.toArray.size = 258; rw [List.size_toArray, hl]) (by simp), Instr.fill]
    congr 2
    rw [Nat.zero_mul]
    exact setMany_all _ _ (by show _ = c.toArray.toList.length; simp [hl])
  unfold Instr.buildSlice
  simp only [Sem.run_bind, run_underlying Tryd.underlying29, Result.andThen_ok, sizeOf, typeInfo, hi, hz1, zeroValue, hz0]
  simp [hi, hz1, hz0]
  rw [show (Value.agg z.toArray).cells = z.toArray from rfl, hfill]
  simp [newRow, go_sem]
#print axioms wpListIn_viaR
#print axioms buildSlice_act
end Go.Proofs.YtieknecbheeekaaDoor
