/- Disk.Crash: all blocks are as they are safe. -/
import Derived.Test.YtkcbjhdklenlbaaD14
set_option linter.unusedVariables false
set_option linter.unusedSimpArgs false
namespace Go.Proofs.Ytkcbjhdklenlbaa
open Go.RowKit

theorem copy_run {w : World} {gd gs n cd cs : Nat} {l l' : List Blk} (hd : Row w 32 256 (.slice (some ⟨gd, 0, none⟩) n cd) (l.map bc)) (hs : Row w 32 256 (.slice (some ⟨gs, 0, none⟩) n cs) (l'.map bc)) (hl : l.length = n) (hl' : l'.length = n) (ty : TypeId) :
    (Builtin.copy_ #[24, 24] ty #[.slice (some ⟨gd, 0, none⟩) n cd, .slice (some ⟨gs, 0, none⟩) n cs]).run Try.prog w = .ok (goInt n) (w.setCells gd 0 (l'.map bc).flatten) := by
  have hlen : (l'.map bc).flatten.length = n * 256 := by rw [flatten_length 256 _ hs.1, List.length_map, hl']
  have hld : (l.map bc).flatten.length = n * 256 := by rw [flatten_length 256 _ hd.1, List.length_map, hl]
  have hd2 := hd.2
  have hs2 := hs.2
  rw [List.length_map, hl] at hd2
  rw [List.length_map, hl'] at hs2
  have hload := run_loadCells_list (P := Try.prog) w ⟨gs, 0, none⟩ (l'.map bc).flatten (fun j v hv => by
    rw [Addr.add_mid, Nat.zero_add, hs2.cellAt j (by rw [← hlen]; exact (List.getElem?_eq_some_iff.1 hv).1)]; exact hv)
  have hstore := run_storeCells_cells (P := Try.prog) gd 0 (l'.map bc).flatten 0 w (fun j hj => by
    rw [hlen] at hj
    rw [show 0 + 0 + j = j by omega, hd2.cellAt j hj, List.getElem?_eq_getElem (by rw [hld]; exact hj)]; rfl) (fun j hj => hd2.frozenAt _) (flat_one l')
  obtain ⟨i0, hi, hz0, hz1, hz2⟩ := info_parts info32b
  rw [hlen] at hload
  simp only [Nat.add_zero] at hstore
  simp [Builtin.copy_, run_underlying Try.underlying24, Builtin.lenOf, Builtin.firstCells, sizeOf, typeInfo, hi, hz1, Nat.min_self, hload, hstore]
theorem gives_copy {o : Oper} {a : Act} {w : World} {T : Value → World → Prop} (gd gs n cd cs : Nat) (l l' : List Blk) {x y : Operand} (ho : o.op = .call { callee := .builtin .copy, args := #[x, y], argTypes := #[24, 24] }) (hx : a.eval x = .slice (some ⟨gd, 0, none⟩) n cd) (hy : a.eval y = .slice (some ⟨gs, 0, none⟩) n cs)
    (hd : Row w 32 256 (.slice (some ⟨gd, 0, none⟩) n cd) (l.map bc)) (hs : Row w 32 256 (.slice (some ⟨gs, 0, none⟩) n cs) (l'.map bc)) (hl : l.length = n) (hl' : l'.length = n) (hT : T (goInt n) (w.setCells gd 0 (l'.map bc).flatten)) : Oper.gives Try.prog o a w T := by
  refine gives_run (v := goInt n) (w' := w.setCells gd 0 (l'.map bc).flatten) ?_ hT
  unfold execOp
  simp only [ho, resolve, invoke, builtin, Sem.run_bind, Sem.run_pure, Result.andThen_ok, List.map_toArray, List.map_cons, List.map_nil, hx, hy, copy_run hd hs hl hl']
theorem copied {w : World} {gd gs n cd cs : Nat} {l l' : List Blk} (hd : Row w 32 256 (.slice (some ⟨gd, 0, none⟩) n cd) (l.map bc)) (hs : Row w 32 256 (.slice (some ⟨gs, 0, none⟩) n cs) (l'.map bc)) (hl : l.length = n) (hl' : l'.length = n) :
    Row (w.setCells gd 0 (l'.map bc).flatten) 32 256 (.slice (some ⟨gd, 0, none⟩) n cd) (l'.map bc) := by
  have hlen : (l'.map bc).flatten.length = n * 256 := by rw [flatten_length 256 _ hs.1, List.length_map, hl']
  have hld : (l.map bc).flatten.length = n * 256 := by rw [flatten_length 256 _ hd.1, List.length_map, hl]
  have hd2 := hd.2
  rw [List.length_map, hl] at hd2
  have h3 := own_setCells (l'.map bc).flatten 0 w _ hd2
  rw [setMany_all _ _ (by rw [hlen, hld])] at h3
  exact ⟨hs.1, by rw [List.length_map, hl']; exact h3⟩
noncomputable def copyCode : Code := (regById 7 (codesOf (Try.f25.body.getD .skip)))
set_option maxRecDepth 100000 in
set_option maxHeartbeats 2000000 in
theorem copy_reg (B gs gl n cs cl : Nat) (l l' : List Blk) (W1 : World) (HC0 : Hid (W1.cell? ⟨B, 0, none⟩ = some (.slice (some ⟨gs, 0, none⟩) n cs))) (HC1 : Hid (W1.cell? ⟨B, 1, none⟩ = some (.slice (some ⟨gl, 0, none⟩) n cl))) (HLB : Hid (B < W1.heap.size)) (HBG : Hid (B ∉ [gl]))
    (HRL : Hid (Row W1 32 256 (.slice (some ⟨gl, 0, none⟩) n cl) (l.map bc))) (HRS : Hid (Row W1 32 256 (.slice (some ⟨gs, 0, none⟩) n cs) (l'.map bc))) (HLl : Hid (l.length = n)) (HLs : Hid (l'.length = n))
    (c1 c2 c3 c4 c5 c6 c7 c8 c9 c10 c11 c12 c13 c14 c15 c16 c17 c18 c19 c20 c21 c22 c23 c24 c25 c26 c27 c28 c29 c30 c31 c32 c33 c34 c35 c36 c37 c38 c39 c40 c41 c42 c43 c44 c45 c46 c47 c48 c49 c50 c51 c52 c53 c54 c55 c56 c57 c58 c59 c60 c61 c62 : Value) (Q : Exit → Act → World → Prop) (HK : Hid (∀ u45 u46 u47 u48 u49 u50 u51 u52 u53 wz, Touch [gl] W1 wz → Row wz 32 256 (.slice (some ⟨gl, 0, none⟩) n cl) (l'.map bc) → Q .normal ⟨(.pointer (some ⟨B, 0, none⟩) :: c1 :: c2 :: c3 :: c4 :: c5 :: c6 :: c7 :: c8 :: c9 :: c10 :: c11 :: c12 :: c13 :: c14 :: c15 :: c16 :: c17 :: c18 :: c19 :: c20 :: c21 :: c22 :: c23 :: c24 :: c25 :: c26 :: c27 :: c28 :: c29 :: c30 :: c31 :: c32 :: c33 :: c34 :: c35 :: c36 :: c37 :: c38 :: c39 :: c40 :: c41 :: c42 :: c43 :: c44 :: u45 :: u46 :: u47 :: u48 :: u49 :: u50 :: u51 :: u52 :: u53 :: c54 :: c55 :: c56 :: c57 :: c58 :: c59 :: c60 :: c61 :: c62 :: []).toArray, []⟩ wz)) : copyCode.wp Try.prog Q ⟨(.pointer (some ⟨B, 0, none⟩) :: c1 :: c2 :: c3 :: c4 :: c5 :: c6 :: c7 :: c8 :: c9 :: c10 :: c11 :: c12 :: c13 :: c14 :: c15 :: c16 :: c17 :: c18 :: c19 :: c20 :: c21 :: c22 :: c23 :: c24 :: c25 :: c26 :: c27 :: c28 :: c29 :: c30 :: c31 :: c32 :: c33 :: c34 :: c35 :: c36 :: c37 :: c38 :: c39 :: c40 :: c41 :: c42 :: c43 :: c44 :: c45 :: c46 :: c47 :: c48 :: c49 :: c50 :: c51 :: c52 :: c53 :: c54 :: c55 :: c56 :: c57 :: c58 :: c59 :: c60 :: c61 :: c62 :: []).toArray, []⟩ W1 := by
  have HN0 := Lib.hid (show ∀ p ∈ ([(8, fun wx => Row wx 32 256 (.slice (some ⟨gl, 0, none⟩) n cl) (l.map bc) ∧ Row wx 32 256 (.slice (some ⟨gs, 0, none⟩) n cs) (l'.map bc))] : List (Nat × (World → Prop))), p.2 W1.drew by
    intro p hp
    simp only [List.mem_cons, List.not_mem_nil, or_false] at hp
    subst hp
    exact ⟨HRL.out.kept (Touch.drew [] W1) (by simp), HRS.out.kept (Touch.drew [] W1) (by simp)⟩)
  conv => arg 2; whnf
  refine wp_region_factsN [8] [(8, fun wx => Row wx 32 256 (.slice (some ⟨gl, 0, none⟩) n cl) (l.map bc) ∧ Row wx 32 256 (.slice (some ⟨gs, 0, none⟩) n cs) (l'.map bc))] (by kernel_rfl) [[], [(0, some 45)], [(1, some 46)], [(2, some 47)], [], [(4, some 49)], [(5, some 50)], [(6, some 51)], [(3, some 48), (7, some 52)]] [(0, some 45), (1, some 46), (2, some 47), (3, some 48), (4, some 49), (5, some 50), (6, some 51), (7, some 52), (8, some 53)] (by kernel_rfl) (by kernel_rfl) (by kernel_rfl) (Touch [gl]) (Touch.refl [gl]) (fun _ _ _ h h' => h.trans h' (fun i hi => .inl hi)) [Is (Value.pointer (some ⟨B, 0, none⟩)), Is (Value.pointer (some ⟨B, 0, none⟩)), Is (Value.pointer (some ⟨B, 1, none⟩)), Is (Value.slice (some ⟨gl, 0, none⟩) n cl), Is (Value.pointer (some ⟨B, 0, none⟩)), Is (Value.pointer (some ⟨B, 0, none⟩)), Is (Value.pointer (some ⟨B, 0, none⟩)), Is (Value.slice (some ⟨gs, 0, none⟩) n cs), (fun _ wx => Row wx 32 256 (.slice (some ⟨gl, 0, none⟩) n cl) (l'.map bc))] rfl ⟨.inr (is_stab _ _), .inr (is_stab _ _), .inr (is_stab _ _), .inr (is_stab _ _), .inr (is_stab _ _), .inr (is_stab _ _), .inr (is_stab _ _), .inr (is_stab _ _), .inl (by simp), trivial⟩ HN0.out ⟨?o0, ?o1, ?o2, ?o3, ?o4, ?o5, ?o6, ?o7, ?o8, trivial⟩ ?_
  case o0 =>
    intro vals wq hRq hNq hpq
    simp only [List.getD_cons_zero, List.getD_cons_succ, canonP]
    simp only [Oper.gives]
    go_simp
    first | exact ⟨is_mk _ _, (Touch.refl [gl]) _⟩ | exact ⟨is_mk _ _, (Touch.refl [gl]) _, (fun _ _ _ _ h => h), (fun _ _ _ _ _ h => h)⟩
  case o1 =>
    intro vals wq hRq hNq hpq
    simp only [factsP, List.getD_cons_zero, List.getD_cons_succ] at hpq
    have f0 := hpq.1
    replace hpq := hpq.2
    clear hpq
    replace f0 : vals 0 = _ := f0
    simp only [List.getD_cons_zero, List.getD_cons_succ, canonP, f0]
    clear f0
    simp only [Oper.gives]
    go_simp
    first | exact ⟨is_mk _ _, (Touch.refl [gl]) _⟩ | exact ⟨is_mk _ _, (Touch.refl [gl]) _, (fun _ _ _ _ h => h), (fun _ _ _ _ _ h => h)⟩
  case o2 =>
    intro vals wq hRq hNq hpq
    simp only [factsP, List.getD_cons_zero, List.getD_cons_succ] at hpq
    have f1 := hpq.1
    replace hpq := hpq.2
    clear hpq
    replace f1 : vals 1 = _ := f1
    simp only [List.getD_cons_zero, List.getD_cons_succ, canonP, f1]
    clear f1
    simp only [Oper.gives]
    go_simp
    first | exact ⟨is_mk _ _, (Touch.refl [gl]) _⟩ | exact ⟨is_mk _ _, (Touch.refl [gl]) _, (fun _ _ _ _ h => h), (fun _ _ _ _ _ h => h)⟩
  case o3 =>
    intro vals wq hRq hNq hpq
    simp only [factsP, List.getD_cons_zero, List.getD_cons_succ] at hpq
    have f2 := hpq.1
    replace hpq := hpq.2
    clear hpq
    replace f2 : vals 2 = _ := f2
    simp only [List.getD_cons_zero, List.getD_cons_succ, canonP, f2]
    clear f2
    have hcc : wq.cell? ⟨B, 1, none⟩ = some (.slice (some ⟨gl, 0, none⟩) n cl) := (hRq.cell (a := ⟨B, 1, none⟩) HLB.out HBG.out).trans HC1.out
    simp only [Oper.gives]
    go_simp
    first | exact ⟨is_mk _ _, Touch.refl _ _⟩ | exact ⟨is_mk _ _, Touch.refl _ _, (fun _ _ _ _ h => h), (fun _ _ _ _ _ h => h)⟩
  case o4 =>
    intro vals wq hRq hNq hpq
    simp only [List.getD_cons_zero, List.getD_cons_succ, canonP]
    simp only [Oper.gives]
    go_simp
    first | exact ⟨is_mk _ _, (Touch.refl [gl]) _⟩ | exact ⟨is_mk _ _, (Touch.refl [gl]) _, (fun _ _ _ _ h => h), (fun _ _ _ _ _ h => h)⟩
  case o5 =>
    intro vals wq hRq hNq hpq
    simp only [factsP, List.getD_cons_zero, List.getD_cons_succ] at hpq
    have f4 := hpq.1
    replace hpq := hpq.2
    clear hpq
    replace f4 : vals 4 = _ := f4
    simp only [List.getD_cons_zero, List.getD_cons_succ, canonP, f4]
    clear f4
    simp only [Oper.gives]
    go_simp
    first | exact ⟨is_mk _ _, (Touch.refl [gl]) _⟩ | exact ⟨is_mk _ _, (Touch.refl [gl]) _, (fun _ _ _ _ h => h), (fun _ _ _ _ _ h => h)⟩
  case o6 =>
    intro vals wq hRq hNq hpq
    simp only [factsP, List.getD_cons_zero, List.getD_cons_succ] at hpq
    have f5 := hpq.1
    replace hpq := hpq.2
    clear hpq
    replace f5 : vals 5 = _ := f5
    simp only [List.getD_cons_zero, List.getD_cons_succ, canonP, f5]
    clear f5
    simp only [Oper.gives]
    go_simp
    first | exact ⟨is_mk _ _, (Touch.refl [gl]) _⟩ | exact ⟨is_mk _ _, (Touch.refl [gl]) _, (fun _ _ _ _ h => h), (fun _ _ _ _ _ h => h)⟩
  case o7 =>
    intro vals wq hRq hNq hpq
    simp only [factsP, List.getD_cons_zero, List.getD_cons_succ] at hpq
    have f6 := hpq.1
    replace hpq := hpq.2
    clear hpq
    replace f6 : vals 6 = _ := f6
    simp only [List.getD_cons_zero, List.getD_cons_succ, canonP, f6]
    clear f6
    have hcc : wq.cell? ⟨B, 0, none⟩ = some (.slice (some ⟨gs, 0, none⟩) n cs) := (hRq.cell (a := ⟨B, 0, none⟩) HLB.out HBG.out).trans HC0.out
    simp only [Oper.gives]
    go_simp
    first | exact ⟨is_mk _ _, Touch.refl _ _⟩ | exact ⟨is_mk _ _, Touch.refl _ _, (fun _ _ _ _ h => h), (fun _ _ _ _ _ h => h)⟩
  case o8 =>
    intro vals wq hRq hNq hpq
    simp only [factsP, List.getD_cons_zero, List.getD_cons_succ] at hpq
    have f3 := hpq.1
    replace hpq := hpq.2
    have f7 := hpq.1
    replace hpq := hpq.2
    clear hpq
    replace f3 : vals 3 = _ := f3
    replace f7 : vals 7 = _ := f7
    simp only [List.getD_cons_zero, List.getD_cons_succ, canonP, f3, f7]
    clear f3 f7
    have hrow := hNq (8, fun wx => Row wx 32 256 (.slice (some ⟨gl, 0, none⟩) n cl) (l.map bc) ∧ Row wx 32 256 (.slice (some ⟨gs, 0, none⟩) n cs) (l'.map bc)) (List.Mem.head _) rfl
    rw [if_pos (by rfl)]
    refine gives_copy gl gs n cl cs l l' rfl rfl rfl hrow.1 hrow.2 HLl.out HLs.out ⟨?_, touch_setCells (by simp) _ _ _, ?_, ?_⟩
    · exact copied hrow.1 hrow.2 HLl.out HLs.out
    · intro p hp; simp only [List.mem_cons, List.not_mem_nil, or_false] at hp; subst hp; intro hn; exact absurd rfl hn
    · intro k hk hne; simp only [List.mem_cons, List.not_mem_nil, or_false] at hk; exact absurd hk hne
  intro vals wz hRwz hfwz
  simp only [AllFacts] at hfwz
  have g0 := hfwz.1
  replace hfwz := hfwz.2
  have g1 := hfwz.1
  replace hfwz := hfwz.2
  have g2 := hfwz.1
  replace hfwz := hfwz.2
  have g3 := hfwz.1
  replace hfwz := hfwz.2
  have g4 := hfwz.1
  replace hfwz := hfwz.2
  have g5 := hfwz.1
  replace hfwz := hfwz.2
  have g6 := hfwz.1
  replace hfwz := hfwz.2
  have g7 := hfwz.1
  replace hfwz := hfwz.2
  have g8 := hfwz.1
  replace hfwz := hfwz.2
  clear hfwz
  replace g0 : vals 0 = _ := g0
  replace g1 : vals 1 = _ := g1
  replace g2 : vals 2 = _ := g2
  replace g3 : vals 3 = _ := g3
  replace g4 : vals 4 = _ := g4
  replace g5 : vals 5 = _ := g5
  replace g6 : vals 6 = _ := g6
  replace g7 : vals 7 = _ := g7
  simp only [canonP, Act.put, List.setIfInBounds_toArray, List.set_cons_succ, List.set_cons_zero, g0, g1, g2, g3, g4, g5, g6, g7]
  clear g0 g1 g2 g3 g4 g5 g6 g7
  exact HK.out _ _ _ _ _ _ _ _ _ _ ((Touch.drew [gl] W1).trans hRwz (fun i hi => .inl hi)) g8
#print axioms copy_reg
end Go.Proofs.Ytkcbjhdklenlbaa
