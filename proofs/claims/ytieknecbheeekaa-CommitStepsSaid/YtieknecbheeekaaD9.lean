/- The document's Same; blocks that are the same compare so. -/
import Derived.Test.YtieknecbheeekaaD8
import Derived.ChangeKeysEq
set_option linter.unusedVariables false
set_option linter.unusedSimpArgs false
namespace Go.Proofs.Ytieknecbheeekaa
open Go.RowKit

theorem plain5 : Try.prog.plainKey 5 = true := by kernel_rfl
theorem cells5 : Try.prog.cellsOf 5 = 1 := by kernel_rfl
theorem eqItems_same (x : Blk) (d : Nat) (w : World) : ∀ is : List Nat, (∀ i ∈ is, i < x.length) → (Op.eqItems (d + 1) 5 (Try.prog.cellsOf 5) (bc x).toArray (bc x).toArray is).run Try.prog w = .ok true w := by
  intro is
  induction is with
  | nil => intro _; simp [Op.eqItems]
  | cons i is ih =>
    intro h
    have hi := h i (by simp)
    have hget : (bc x).toArray[i * Try.prog.cellsOf 5]? = some (.int .u8 ((x[i] : Nat) : Int)) := by
      rw [cells5, Nat.mul_one]
      unfold bc
      simp [hi]
    have hp := run_part_plain (P := Try.prog) w plain5 hget
    simp only [Op.eqItems, Sem.run_bind, hp, Result.andThen_ok, run_equalIn_int w d 5 .u8 .u8 _ _ Try.underlying5, beq_self_eq_true, Bool.not_true, Bool.false_eq_true, if_false]
    exact ih (fun j hj => h j (by simp [hj]))
theorem info5 : (Try.prog.info? 5).map (fun i => (i.zero, i.size, i.bytes)) = some (some (.int .u8 0), 1, 1) := by kernel_rfl
theorem equal32 (x : Blk) (hx : x.length = 256) (w : World) : (Op.equalIn 10000 44 (.agg (bc x).toArray) (.agg (bc x).toArray)).run Try.prog w = .ok true w := by
  obtain ⟨i0, hi, _, _, _⟩ := info_parts info5
  rw [show (10000 : Nat) = 9999 + 1 from rfl, run_equalIn_array w 9999 _ _ Try.underlying44 hi]
  exact eqItems_same x 9998 w _ (fun i hi => by rw [hx]; exact List.mem_range.1 hi)
theorem neq32 (x : Blk) (hx : x.length = 256) (w : World) : (binOp .neq 44 (.agg (bc x).toArray) (.agg (bc x).toArray)).run Try.prog w = .ok (.bool false) w := by
  rw [run_neq_struct, equal32 x hx]; rfl
theorem eql32 (x : Blk) (hx : x.length = 256) (w : World) : (binOp .eql 44 (.agg (bc x).toArray) (.agg (bc x).toArray)).run Try.prog w = .ok (.bool true) w := by
  rw [run_eql_struct, equal32 x hx]; rfl
theorem guardT : Try.prog.eqGuardType Try.prog.depth 44 = false := by kernel_rfl
theorem guard32n (x y : Operand) (p q : Array Value) (w : World) : (eqGuard .neq 44 x y (.agg p) (.agg q)).run Try.prog w = .ok () w := by
  simp [eqGuard, guardT]
theorem guard32e (x y : Operand) (p q : Array Value) (w : World) : (eqGuard .eql 44 x y (.agg p) (.agg q)).run Try.prog w = .ok () w := by
  simp [eqGuard, guardT]
theorem gives_load_mid {P : Program} {o : Oper} {a : Act} {w : World} {T : Value → World → Prop} (ty : TypeId) (x : Operand) (ho : o.op = .load ty x) (b off : Nat) (hx : a.eval x = .pointer (some ⟨b, off, none⟩)) (cs : List Value) (d : TypeDesc) (hc : w.rangeAt b off cs)
    (hu : P.underlying ty = some d) (hd : d.isRow = true) (hi : (P.info? ty).map (·.size) = some cs.length) (hT : T (.agg cs.toArray) w) : Oper.gives P o a w T := by
  refine gives_run (v := .agg cs.toArray) (w' := w) ?_ hT
  unfold execOp
  simp only [ho, hx, Instr.loadAt, Instr.sureAddr, Sem.run_bind, Sem.run_pure, Result.andThen_ok, run_loadVar_mid w b off ty cs d hc hu hd hi]
theorem gives_binOp {P : Program} {o : Oper} {a : Act} {w w' : World} {T : Value → World → Prop} (op : BinOp) (t : TypeId) (x y : Operand) (t' : TypeId) (ho : o.op = .binOp op t x y t') (u v : Value) (hx : a.eval x = u) (hy : a.eval y = v) (hgd : (eqGuard op t x y u v).run P w = .ok () w) {r : Value} (hr : (binOp op t u v).run P w = .ok r w') (hT : T r w') : Oper.gives P o a w T := by
  refine gives_run (v := r) (w' := w') ?_ hT
  unfold execOp
  simp only [ho, hx, hy, Sem.run_bind, hgd, hr, Result.andThen_ok, Sem.run_pure]

set_option maxRecDepth 100000 in
set_option maxHeartbeats 2000000 in
theorem same_yes {w : World} {va vb : Value} {l : List Blk} (ha : Row w 44 256 va (l.map bc)) (hb : Row w 44 256 vb (l.map bc)) (hl : 1 ≤ l.length) (hl2 : l.length ≤ 4096) :
    Calls Try.prog 16 #[va, vb] w fun e w' => e = .returned (.bool true) ∧ Grow w w' := by
  obtain ⟨ga, ca, rfl, _⟩ := ha.open_ (by simp; omega)
  obtain ⟨gb, cb, rfl, _⟩ := hb.open_ (by simp; omega)
  have hlen : (l.map bc).length = l.length := by simp
  rw [hlen] at ha hb ⊢
  have HRA := Lib.hid ha
  have HRB := Lib.hid hb
  have HLN := Lib.hid (show l.length = l.length from rfl)
  have hall : ∀ i (h : i < l.length), (l.map bc)[i]? = some (bc l[i]) := fun i h => by simp [h]
  have hx256 : ∀ i (h : i < l.length), (l[i]).length = 256 := fun i h => ha.len256 _ (List.getElem_mem h)
  have HALL := Lib.hid hall
  have HXX := Lib.hid hx256
  obtain ⟨n, hn⟩ : ∃ n, n = l.length := ⟨_, rfl⟩
  rw [← hn] at HRA HRB hl hl2 ⊢
  have HN := Lib.hid hn
  clear ha hb hall hx256 hn hlen HLN
  go_enter Try.func16, Try.ntmps16
  go_wp2_with fail
  go_loopw [5] (fun ti wr => ∃ i : Nat, i ≤ n ∧ ti = .int .i64 (i : Int) ∧ Hid (Touch [] w wr)) (fun ti _ => n - (intOf ti).toNat)
  case atStart => exact ⟨0, by omega, rfl, Lib.hid (Touch.refl _ _)⟩
  case round =>
    obtain ⟨i, hi, rfl, HT⟩ := hrel
    by_cases hlt : i < n
    · obtain ⟨x, hxx⟩ : ∃ x, x = l[i]'(by rw [← HN.out]; exact hlt) := ⟨_, rfl⟩
      have HGX := Lib.hid (show (l.map bc)[i]? = some (bc x) by rw [hxx]; exact HALL.out i (by rw [← HN.out]; exact hlt))
      have HXl := Lib.hid (show x.length = 256 by rw [hxx]; exact HXX.out i (by rw [← HN.out]; exact hlt))
      have HSz := Lib.hid (show (Try.prog.info? 44).map (·.size) = some (bc x).length by rw [bc_length, HXl.out]; exact size32)
      have HRa := Lib.hid (HRA.out.kept (HT.out.trans (Touch.drew [] wr) (by simp)) (by simp))
      have HRb := Lib.hid (HRB.out.kept (HT.out.trans (Touch.drew [] wr) (by simp)) (by simp))
      have HB0 := Lib.hid (show (0 : Int) ≤ (i : Int) by omega)
      have HB1 := Lib.hid (show (i : Int) < (n : Int) by omega)
      clear hxx
      go_wp2_with fail
      refine wp_region_facts (by kernel_rfl) [[], [], [(0, some 17), (1, some 18)], [(2, some 19)], [], [], [(4, some 21), (5, some 22)], [(6, some 23)], [(3, some 20), (7, some 24)]] [(0, some 17), (1, some 18), (2, some 19), (3, some 20), (4, some 21), (5, some 22), (6, some 23), (7, some 24), (8, some 25)] (by kernel_rfl) (by kernel_rfl) (by kernel_rfl) (Touch []) (Touch.refl []) (fun _ _ _ h h' => h.trans h' (fun i hi => .inl hi)) [Is (Value.slice (some ⟨ga, 0, none⟩) n ca), Is (Value.int .i64 (i : Int)), Is (Value.pointer (some ⟨ga, i * 256, none⟩)), Is (Value.agg (bc x).toArray), Is (Value.slice (some ⟨gb, 0, none⟩) n cb), Is (Value.int .i64 (i : Int)), Is (Value.pointer (some ⟨gb, i * 256, none⟩)), Is (Value.agg (bc x).toArray), Is (Value.bool false)] rfl ⟨is_stab _ _, is_stab _ _, is_stab _ _, is_stab _ _, is_stab _ _, is_stab _ _, is_stab _ _, is_stab _ _, is_stab _ _, trivial⟩ ⟨?o0, ?o1, ?o2, ?o3, ?o4, ?o5, ?o6, ?o7, ?o8, trivial⟩ ?_
      case o0 =>
        intro vals wq hRq hpq
        simp only [List.getD_cons_zero, List.getD_cons_succ, canonP]
        simp only [Oper.gives]
        go_simp
        exact ⟨is_mk _ _, (Touch.refl []) _⟩
      case o1 =>
        intro vals wq hRq hpq
        simp only [List.getD_cons_zero, List.getD_cons_succ, canonP]
        simp only [Oper.gives]
        go_simp
        exact ⟨is_mk _ _, (Touch.refl []) _⟩
      case o2 =>
        intro vals wq hRq hpq
        simp only [factsP, List.getD_cons_zero, List.getD_cons_succ] at hpq
        have f0 := hpq.1
        replace hpq := hpq.2
        have f1 := hpq.1
        replace hpq := hpq.2
        clear hpq
        replace f0 : vals 0 = _ := f0
        replace f1 : vals 1 = _ := f1
        simp only [List.getD_cons_zero, List.getD_cons_succ, canonP, f0, f1]
        clear f0 f1
        have b0 := HB0.out
        have b1 := HB1.out
        simp only [Oper.gives]
        go_simp
        exact ⟨is_mk _ _, Touch.refl _ _⟩
      case o3 =>
        intro vals wq hRq hpq
        simp only [factsP, List.getD_cons_zero, List.getD_cons_succ] at hpq
        have f2 := hpq.1
        replace hpq := hpq.2
        clear hpq
        replace f2 : vals 2 = _ := f2
        simp only [List.getD_cons_zero, List.getD_cons_succ, canonP, f2]
        clear f2
        have hr := HRa.out.kept hRq (by simp)
        rw [if_pos (by rfl)]
        exact gives_load_mid 44 _ rfl ga (i * 256) rfl (bc x) _ (hr.range HGX.out) Try.underlying44 rfl HSz.out ⟨is_mk _ _, Touch.refl _ _⟩
      case o4 =>
        intro vals wq hRq hpq
        simp only [List.getD_cons_zero, List.getD_cons_succ, canonP]
        simp only [Oper.gives]
        go_simp
        exact ⟨is_mk _ _, (Touch.refl []) _⟩
      case o5 =>
        intro vals wq hRq hpq
        simp only [List.getD_cons_zero, List.getD_cons_succ, canonP]
        simp only [Oper.gives]
        go_simp
        exact ⟨is_mk _ _, (Touch.refl []) _⟩
      case o6 =>
        intro vals wq hRq hpq
        simp only [factsP, List.getD_cons_zero, List.getD_cons_succ] at hpq
        have f4 := hpq.1
        replace hpq := hpq.2
        have f5 := hpq.1
        replace hpq := hpq.2
        clear hpq
        replace f4 : vals 4 = _ := f4
        replace f5 : vals 5 = _ := f5
        simp only [List.getD_cons_zero, List.getD_cons_succ, canonP, f4, f5]
        clear f4 f5
        have b0 := HB0.out
        have b1 := HB1.out
        simp only [Oper.gives]
        go_simp
        exact ⟨is_mk _ _, Touch.refl _ _⟩
      case o7 =>
        intro vals wq hRq hpq
        simp only [factsP, List.getD_cons_zero, List.getD_cons_succ] at hpq
        have f6 := hpq.1
        replace hpq := hpq.2
        clear hpq
        replace f6 : vals 6 = _ := f6
        simp only [List.getD_cons_zero, List.getD_cons_succ, canonP, f6]
        clear f6
        have hr := HRb.out.kept hRq (by simp)
        rw [if_pos (by rfl)]
        exact gives_load_mid 44 _ rfl gb (i * 256) rfl (bc x) _ (hr.range HGX.out) Try.underlying44 rfl HSz.out ⟨is_mk _ _, Touch.refl _ _⟩
      case o8 =>
        intro vals wq hRq hpq
        simp only [factsP, List.getD_cons_zero, List.getD_cons_succ] at hpq
        have f3 := hpq.1
        replace hpq := hpq.2
        have f7 := hpq.1
        replace hpq := hpq.2
        clear hpq
        replace f3 : vals 3 = _ := f3
        replace f7 : vals 7 = _ := f7
        simp only [List.getD_cons_zero, List.getD_cons_succ, canonP, f3, f7]
        clear f3 f7
        rw [if_pos (by rfl)]
        exact gives_binOp .neq 44 _ _ 44 rfl _ _ rfl rfl (guard32n _ _ _ _ wq) (neq32 x HXl.out wq) ⟨is_mk _ _, Touch.refl _ _⟩
      intro vals wz hRwz hfwz
      simp only [AllFacts] at hfwz
      have g0 := hfwz.1
      replace hfwz := hfwz.2
      have g1 := hfwz.1
      replace hfwz := hfwz.2
      have g2 := hfwz.1
      replace hfwz := hfwz.2
      have g3 := hfwz.1
      replace hfwz := hfwz.2
      have g4 := hfwz.1
      replace hfwz := hfwz.2
      have g5 := hfwz.1
      replace hfwz := hfwz.2
      have g6 := hfwz.1
      replace hfwz := hfwz.2
      have g7 := hfwz.1
      replace hfwz := hfwz.2
      have g8 := hfwz.1
      replace hfwz := hfwz.2
      clear hfwz
      replace g0 : vals 0 = _ := g0
      replace g1 : vals 1 = _ := g1
      replace g2 : vals 2 = _ := g2
      replace g3 : vals 3 = _ := g3
      replace g4 : vals 4 = _ := g4
      replace g5 : vals 5 = _ := g5
      replace g6 : vals 6 = _ := g6
      replace g7 : vals 7 = _ := g7
      replace g8 : vals 8 = _ := g8
      simp only [canonP, Act.put, List.setIfInBounds_toArray, List.set_cons_succ, List.set_cons_zero, g0, g1, g2, g3, g4, g5, g6, g7, g8]
      clear g0 g1 g2 g3 g4 g5 g6 g7 g8
      have HT2 := Lib.hid ((HT.out.trans (Touch.drew [] wr) (by simp)).trans hRwz (by simp))
      clear hRwz
      go_wp2_with fail
      go_roundw
      case rel => exact ⟨i + 1, by omega, by go_num, HT2⟩
      case measure => simp [intOf]; omega
    · go_wp2_with fail
      go_ret
      exact ⟨rfl, HT.out.below (Nat.le_refl _) (by simp)⟩
#print axioms same_yes
end Go.Proofs.Ytieknecbheeekaa
