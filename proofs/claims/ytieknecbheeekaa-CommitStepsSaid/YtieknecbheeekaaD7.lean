/- Disk.Write: the block is what was written last. -/
import Derived.Test.YtieknecbheeekaaD6
set_option linter.unusedVariables false
set_option linter.unusedSimpArgs false
namespace Go.Proofs.Ytieknecbheeekaa
open Go.RowKit

theorem gives_store_mid {P : Program} {o : Oper} {a : Act} {T : Value → World → Prop} (w : World) (ty : TypeId) (b off : Nat) (cells : Array Value) {x y : Operand} (ho : o.op = .store ty x y) (hx : a.eval x = .pointer (some ⟨b, off, none⟩)) (hy : a.eval y = .agg cells)
    (ht : w.there b off cells.size) (hi : (P.info? ty).map (·.size) = some cells.size) (h1 : cells.all (·.oneCell') = true) (hT : T undef (w.setCells b off cells.toList)) : Oper.gives P o a w T := by
  unfold Oper.gives execOp
  simp only [ho, hx, hy, Sem.run_bind, run_storeAt_mid w b off ty cells ht hi h1, Result.andThen_ok, Sem.run_pure]
  exact hT
noncomputable def writeReg5 : Code := ((codesOf (Try.f41.body.getD .skip)).getD 5 .skip)
set_option maxRecDepth 100000 in
set_option maxHeartbeats 2000000 in
theorem write_reg5 (B Bx b gl n cl : Nat) (x : Blk) (l : List Blk) (W1 : World) (HX : Hid (W1.heap[Bx]? = some (.cells (bc x).toArray 44))) (HXL : Hid (Bx < W1.heap.size)) (HXG : Hid (Bx ∉ [gl])) (HXl : Hid (x.length = 256))
    (HC1 : Hid (W1.cell? ⟨B, 1, none⟩ = some (.slice (some ⟨gl, 0, none⟩) n cl))) (HLB : Hid (B < W1.heap.size)) (HBG : Hid (B ∉ [gl])) (HRL : Hid (Row W1 44 256 (.slice (some ⟨gl, 0, none⟩) n cl) (l.map bc))) (hb : b < l.length) (hln : l.length = n)
    (c2 c3 c4 c6 c7 c8 c9 c10 c11 c12 c13 c14 c15 c16 c17 c18 c19 c20 c21 c22 c23 c24 c25 c26 c27 c28 c29 c30 c31 c32 c33 c34 : Value) (Q : Exit → Act → World → Prop) (HK : Hid (∀ u26 u27 u28 u29 u30 u31 u32 wz, Touch [gl] W1 wz → Row wz 44 256 (.slice (some ⟨gl, 0, none⟩) n cl) ((l.set b x).map bc) → Q .normal ⟨(.pointer (some ⟨B, 0, none⟩) :: .int .i64 (b : Int) :: c2 :: c3 :: c4 :: .pointer (some ⟨Bx, 0, none⟩) :: c6 :: c7 :: c8 :: c9 :: c10 :: c11 :: c12 :: c13 :: c14 :: c15 :: c16 :: c17 :: c18 :: c19 :: c20 :: c21 :: c22 :: c23 :: c24 :: c25 :: u26 :: u27 :: u28 :: u29 :: u30 :: u31 :: u32 :: c33 :: c34 :: []).toArray, []⟩ wz)) : writeReg5.wp Try.prog Q ⟨(.pointer (some ⟨B, 0, none⟩) :: .int .i64 (b : Int) :: c2 :: c3 :: c4 :: .pointer (some ⟨Bx, 0, none⟩) :: c6 :: c7 :: c8 :: c9 :: c10 :: c11 :: c12 :: c13 :: c14 :: c15 :: c16 :: c17 :: c18 :: c19 :: c20 :: c21 :: c22 :: c23 :: c24 :: c25 :: c26 :: c27 :: c28 :: c29 :: c30 :: c31 :: c32 :: c33 :: c34 :: []).toArray, []⟩ W1 := by
  have HSz := Lib.hid (show (Try.prog.info? 44).map (·.size) = some (bc x).toArray.size by rw [List.size_toArray, bc_length, HXl.out]; exact size32)
  have HXb := Lib.hid (show (bc x).length = 256 by rw [bc_length]; exact HXl.out)
  have HBL := Lib.hid (show b < (l.map bc).length by rw [List.length_map]; exact hb)
  have HB0 := Lib.hid (show (0 : Int) ≤ (b : Int) by omega)
  have HB1 := Lib.hid (show (b : Int) < (n : Int) by omega)
  have HN0 := Lib.hid (show ∀ p ∈ ([(7, fun wx => Row wx 44 256 (.slice (some ⟨gl, 0, none⟩) n cl) (l.map bc))] : List (Nat × (World → Prop))), p.2 W1.drew by
    intro p hp
    simp only [List.mem_cons, List.not_mem_nil, or_false] at hp
    subst hp
    exact HRL.out.kept (Touch.drew [] W1) (by simp))
  clear hb hln
  conv => arg 2; whnf
  refine wp_region_factsN [7] [(7, fun wx => Row wx 44 256 (.slice (some ⟨gl, 0, none⟩) n cl) (l.map bc))] (by kernel_rfl) [[], [(0, some 26)], [(1, some 27)], [(2, some 28)], [], [], [(0, some 26), (1, some 27), (2, some 28), (3, some 29), (4, some 30), (5, some 31)], [(0, some 26), (1, some 27), (2, some 28), (3, some 29), (4, some 30), (5, some 31), (6, some 32)]] [(0, some 26), (1, some 27), (2, some 28), (3, some 29), (4, some 30), (5, some 31), (6, some 32), (7, none)] (by kernel_rfl) (by kernel_rfl) (by kernel_rfl) (Touch [gl]) (Touch.refl [gl]) (fun _ _ _ h h' => h.trans h' (fun i hi => .inl hi)) [Is (Value.pointer (some ⟨B, 0, none⟩)), Is (Value.pointer (some ⟨B, 0, none⟩)), Is (Value.pointer (some ⟨B, 1, none⟩)), Is (Value.slice (some ⟨gl, 0, none⟩) n cl), Is (Value.int .i64 (b : Int)), Is (Value.agg (bc x).toArray), Is (Value.pointer (some ⟨gl, b * 256, none⟩)), (fun _ wx => Row wx 44 256 (.slice (some ⟨gl, 0, none⟩) n cl) ((l.set b x).map bc))] rfl ⟨.inr (is_stab _ _), .inr (is_stab _ _), .inr (is_stab _ _), .inr (is_stab _ _), .inr (is_stab _ _), .inr (is_stab _ _), .inr (is_stab _ _), .inl (by simp), trivial⟩ HN0.out ⟨?o0, ?o1, ?o2, ?o3, ?o4, ?o5, ?o6, ?o7, trivial⟩ ?_
  case o0 =>
    intro vals wq hRq hNq hpq
    simp only [List.getD_cons_zero, List.getD_cons_succ, canonP]
    simp only [Oper.gives]
    go_simp
    first | exact ⟨is_mk _ _, (Touch.refl [gl]) _⟩ | exact ⟨is_mk _ _, (Touch.refl [gl]) _, (fun _ _ _ _ h => h), (fun _ _ _ _ _ h => h)⟩
  case o1 =>
    intro vals wq hRq hNq hpq
    simp only [factsP, List.getD_cons_zero, List.getD_cons_succ] at hpq
    have f0 := hpq.1
    replace hpq := hpq.2
    clear hpq
    replace f0 : vals 0 = _ := f0
    simp only [List.getD_cons_zero, List.getD_cons_succ, canonP, f0]
    clear f0
    simp only [Oper.gives]
    go_simp
    first | exact ⟨is_mk _ _, (Touch.refl [gl]) _⟩ | exact ⟨is_mk _ _, (Touch.refl [gl]) _, (fun _ _ _ _ h => h), (fun _ _ _ _ _ h => h)⟩
  case o2 =>
    intro vals wq hRq hNq hpq
    simp only [factsP, List.getD_cons_zero, List.getD_cons_succ] at hpq
    have f1 := hpq.1
    replace hpq := hpq.2
    clear hpq
    replace f1 : vals 1 = _ := f1
    simp only [List.getD_cons_zero, List.getD_cons_succ, canonP, f1]
    clear f1
    simp only [Oper.gives]
    go_simp
    first | exact ⟨is_mk _ _, (Touch.refl [gl]) _⟩ | exact ⟨is_mk _ _, (Touch.refl [gl]) _, (fun _ _ _ _ h => h), (fun _ _ _ _ _ h => h)⟩
  case o3 =>
    intro vals wq hRq hNq hpq
    simp only [factsP, List.getD_cons_zero, List.getD_cons_succ] at hpq
    have f2 := hpq.1
    replace hpq := hpq.2
    clear hpq
    replace f2 : vals 2 = _ := f2
    simp only [List.getD_cons_zero, List.getD_cons_succ, canonP, f2]
    clear f2
    have hcc : wq.cell? ⟨B, 1, none⟩ = some (.slice (some ⟨gl, 0, none⟩) n cl) := (hRq.cell (a := ⟨B, 1, none⟩) HLB.out HBG.out).trans HC1.out
    simp only [Oper.gives]
    go_simp
    first | exact ⟨is_mk _ _, Touch.refl _ _⟩ | exact ⟨is_mk _ _, Touch.refl _ _, (fun _ _ _ _ h => h), (fun _ _ _ _ _ h => h)⟩
  case o4 =>
    intro vals wq hRq hNq hpq
    simp only [List.getD_cons_zero, List.getD_cons_succ, canonP]
    simp only [Oper.gives]
    go_simp
    first | exact ⟨is_mk _ _, (Touch.refl [gl]) _⟩ | exact ⟨is_mk _ _, (Touch.refl [gl]) _, (fun _ _ _ _ h => h), (fun _ _ _ _ _ h => h)⟩
  case o5 =>
    intro vals wq hRq hNq hpq
    simp only [List.getD_cons_zero, List.getD_cons_succ, canonP]
    have hbx : wq.heap[Bx]? = some (.cells (bc x).toArray 44) := (hRq.block Bx HXL.out HXG.out).trans HX.out
    rw [if_pos (by rfl)]
    exact gives_load_row 44 _ rfl Bx rfl 44 (bc x).toArray (0, 0) _ hbx Try.underlying44 rfl HSz.out ⟨is_mk _ _, Touch.refl _ _, (fun _ _ _ _ h => h), (fun _ _ _ _ _ h => h)⟩
  case o6 =>
    intro vals wq hRq hNq hpq
    simp only [factsP, List.getD_cons_zero, List.getD_cons_succ] at hpq
    have f0 := hpq.1
    replace hpq := hpq.2
    have f1 := hpq.1
    replace hpq := hpq.2
    have f2 := hpq.1
    replace hpq := hpq.2
    have f3 := hpq.1
    replace hpq := hpq.2
    have f4 := hpq.1
    replace hpq := hpq.2
    have f5 := hpq.1
    replace hpq := hpq.2
    clear hpq
    replace f0 : vals 0 = _ := f0
    replace f1 : vals 1 = _ := f1
    replace f2 : vals 2 = _ := f2
    replace f3 : vals 3 = _ := f3
    replace f4 : vals 4 = _ := f4
    replace f5 : vals 5 = _ := f5
    simp only [List.getD_cons_zero, List.getD_cons_succ, canonP, f0, f1, f2, f3, f4, f5]
    clear f0 f1 f2 f3 f4 f5
    have b0 := HB0.out
    have b1 := HB1.out
    simp only [Oper.gives]
    go_simp
    first | exact ⟨is_mk _ _, Touch.refl _ _⟩ | exact ⟨is_mk _ _, Touch.refl _ _, (fun _ _ _ _ h => h), (fun _ _ _ _ _ h => h)⟩
  case o7 =>
    intro vals wq hRq hNq hpq
    simp only [factsP, List.getD_cons_zero, List.getD_cons_succ] at hpq
    have f0 := hpq.1
    replace hpq := hpq.2
    have f1 := hpq.1
    replace hpq := hpq.2
    have f2 := hpq.1
    replace hpq := hpq.2
    have f3 := hpq.1
    replace hpq := hpq.2
    have f4 := hpq.1
    replace hpq := hpq.2
    have f5 := hpq.1
    replace hpq := hpq.2
    have f6 := hpq.1
    replace hpq := hpq.2
    clear hpq
    replace f0 : vals 0 = _ := f0
    replace f1 : vals 1 = _ := f1
    replace f2 : vals 2 = _ := f2
    replace f3 : vals 3 = _ := f3
    replace f4 : vals 4 = _ := f4
    replace f5 : vals 5 = _ := f5
    replace f6 : vals 6 = _ := f6
    simp only [List.getD_cons_zero, List.getD_cons_succ, canonP, f0, f1, f2, f3, f4, f5, f6]
    clear f0 f1 f2 f3 f4 f5 f6
    have hrow : Row wq 44 256 (.slice (some ⟨gl, 0, none⟩) n cl) (l.map bc) := hNq (7, fun wx => Row wx 44 256 (.slice (some ⟨gl, 0, none⟩) n cl) (l.map bc)) (List.Mem.head _) rfl
    simp only [Act.put, List.setIfInBounds_toArray, List.set_cons_succ, List.set_cons_zero]
    rw [if_pos (by rfl)]
    refine gives_store_mid wq 44 gl (b * 256) (bc x).toArray rfl rfl rfl (by rw [List.size_toArray, HXb.out]; exact hrow.there HBL.out) HSz.out (all_oneCell_toArray (bc_one _)) ⟨?_, touch_setCells (by simp) _ _ _, ?_, ?_⟩
    · rw [List.map_set]; exact hrow.store HXb.out HBL.out
    · intro p hp; simp only [List.mem_cons, List.not_mem_nil, or_false] at hp; subst hp; intro hn; exact absurd rfl hn
    · intro k hk hne; simp only [List.mem_cons, List.not_mem_nil, or_false] at hk; exact absurd hk hne
  intro vals wz hRwz hfwz
  simp only [AllFacts] at hfwz
  have g0 := hfwz.1
  replace hfwz := hfwz.2
  have g1 := hfwz.1
  replace hfwz := hfwz.2
  have g2 := hfwz.1
  replace hfwz := hfwz.2
  have g3 := hfwz.1
  replace hfwz := hfwz.2
  have g4 := hfwz.1
  replace hfwz := hfwz.2
  have g5 := hfwz.1
  replace hfwz := hfwz.2
  have g6 := hfwz.1
  replace hfwz := hfwz.2
  have g7 := hfwz.1
  replace hfwz := hfwz.2
  clear hfwz
  replace g0 : vals 0 = _ := g0
  replace g1 : vals 1 = _ := g1
  replace g2 : vals 2 = _ := g2
  replace g3 : vals 3 = _ := g3
  replace g4 : vals 4 = _ := g4
  replace g5 : vals 5 = _ := g5
  replace g6 : vals 6 = _ := g6
  simp only [canonP, Act.put, List.setIfInBounds_toArray, List.set_cons_succ, List.set_cons_zero, g0, g1, g2, g3, g4, g5, g6]
  clear g0 g1 g2 g3 g4 g5 g6
  exact HK.out _ _ _ _ _ _ _ _ ((Touch.drew [gl] W1).trans hRwz (fun i hi => .inl hi)) g7
#print axioms write_reg5
end Go.Proofs.Ytieknecbheeekaa
