/- quernlaw15.Trans: a copy is appended. -/
import Derived.Test.YtlhhbkpocpnebaaP5
set_option linter.unusedVariables false
set_option linter.unusedSimpArgs false
namespace Go.Proofs.Ytlhhbkpocpnebaa
open Go.RowKit Go.Maps

theorem built40 (parts : List (Nat × Value)) : Try.prog.built 40 parts = Instr.fill (fun i => ([(0, 1), (1, 256)] : List (Nat × Nat)).toArray[i]?) (ccell zeroC).toArray parts := by kernel_rfl
theorem built_copy (b : Int) (x : Blk) (hx : x.length = 256) : Try.prog.built 40 [(0, .int .i64 b), (1, .agg (bc x).toArray)] = some (ccell (b, x)).toArray := by
  have hl : (bc x).length = 256 := by rw [bc_length]; exact hx
  have hz : (bc zeroB).length = 256 := by rw [bc_zero, List.length_replicate]
  rw [built40, fill_cons (off := 0) (size := 1) rfl rfl (by rw [List.size_toArray, ccell_length zeroC_ok]; omega)]
  rw [fill_cons (off := 1) (size := 256) rfl (by show (bc x).toArray.size = 256; rw [List.size_toArray, hl]) (by rw [List.size_toArray, setMany_length]; show 1 + 256 ≤ (ccell zeroC).length; rw [ccell_length zeroC_ok]; omega)]
  rw [Instr.fill]
  congr 2
  show setMany (setMany (ccell zeroC) 0 [.int .i64 b]) 1 (bc x) = ccell (b, x)
  unfold ccell
  simp only [setMany, List.set_cons_zero]
  exact setMany_tail _ _ _ (by show (bc zeroB).length = _; rw [hz, hl])
theorem AppAtE.ne {t sz : Nat} {W : World} {vw : Value} {l : List (List Value)} {v : Value} {w : World} {B : Nat} (h : AppAtE t sz W vw l v w) (hb : ∀ g, vw.ownBlock = some g → g ≠ B) (hB : B < W.heap.size) {g : Nat} (hg : v.ownBlock = some g) : g ≠ B := by
  rcases h.2 with h1 | ⟨g', h1, h2⟩
  · exact hb g (h1 ▸ hg)
  · rw [hg] at h1; cases h1; omega
/-- a transaction's object -/
def tObj (s : Nat) (vc vr : Value) : Obj := .cells #[.int .u32 (s : Int), vc, vr] 55
def TDone (s : Nat) (vr : Value) (W : World) (B : Nat) (vc : Value) (l : List (List Value)) : Value → World → Prop := fun _ w =>
  ∃ v, w.heap[B]? = some (tObj s v vr) ∧ AppAtE 40 257 W vc l v w
theorem keepT {w w' : World} {B : Nat} {s : Nat} {vc vr : Value} {cs : List Cp} {L : Nat} (hB : B < L) (hW : ∀ g, vc.ownBlock = some g → g < L) (hL : L ≤ w.heap.size) {T : List Nat} (ht : Touch T w w') (hTB : B ∉ T) (hTW : ∀ g, vc.ownBlock = some g → g ∉ T) {j : Nat} {pj : List Nat} :
    ∀ p ∈ ([(1, fun wx => wx.cell? ⟨B, 1, none⟩ = some vc), (14, fun wx => CRow wx vc cs), (16, fun wx => wx.heap[B]? = some (tObj s vc vr))] : List (Nat × (World → Prop))), p.1 ≠ j → p.1 ∉ pj → p.2 w → p.2 w' := by
  intro p hp _ _ h
  simp only [List.mem_cons, List.not_mem_nil, or_false] at hp
  rcases hp with rfl | rfl | rfl
  · exact (ht.cell (a := ⟨B, 1, none⟩) (by simp; omega) hTB).trans h
  · exact Row.kept h ht hTW
  · exact (ht.block B (by omega) hTB).trans h
theorem storeC (w : World) (B : Nat) (u : Value) (p : Option Addr) (l c : Nat) (hc : w.cell? ⟨B, 1, none⟩ = some u) (hf : w.frozen? ⟨B, 1, none⟩ = false) : (Instr.storeAt 33 (.pointer (some ⟨B, 1, none⟩)) (.slice p l c)).run Try.prog w = .ok () (w.setCell ⟨B, 1, none⟩ (.slice p l c)) := by
  go_simp
theorem gives_storeC {o : Oper} {a : Act} {T : Value → World → Prop} (w : World) (B : Nat) (u v : Value) {x y : Operand} (ho : o.op = .store 33 x y) (hx : a.eval x = .pointer (some ⟨B, 1, none⟩)) (hy : a.eval y = v) (hc : w.cell? ⟨B, 1, none⟩ = some u) (hf : w.frozen? ⟨B, 1, none⟩ = false)
    (hv : ∃ p l c, v = .slice p l c) (hT : T undef (w.setCell ⟨B, 1, none⟩ v)) : Oper.gives Try.prog o a w T := by
  obtain ⟨p, l, c, rfl⟩ := hv
  unfold Oper.gives execOp
  simp only [ho, hx, hy, Sem.run_bind, storeC w B u p l c hc hf, Result.andThen_ok, Sem.run_pure]
  exact hT
noncomputable def transReg5 : Code := regById 5 (codesOf (Try.f33.body.getD .skip))
set_option maxRecDepth 100000 in
set_option maxHeartbeats 4000000 in
theorem trans_reg5 (B k n c1 s : Nat) (y : Addr) (p : PR) (cs : List Cp) (S : List Nat) (vc vr : Value) (W1 : World) (HKN : Hid (k < n)) (HKB : Hid (n ≤ 1000000)) (HYL : Hid (y.block < W1.heap.size)) (HYS : Hid (y.block ∉ S)) (HA : Hid (RowAt W1 (y.add (k * 3)) p))
    (HOB : Hid (W1.heap[B]? = some (tObj s vc vr))) (HRW : Hid (CRow W1 vc cs)) (HLT : Hid (∀ k ∈ S, k < W1.heap.size)) (HIB : Hid (B ∈ S)) (HIW : Hid (∀ k, vc.ownBlock = some k → k ∈ S)) (HBW2 : Hid (∀ g, vc.ownBlock = some g → g ≠ B)) (HWS : Hid (cs.length + 1 ≤ 1000000))
    (c2 c3 c4 c5 c6 c9 c10 c11 c12 c13 c14 c15 c16 c17 c18 c19 c20 c21 c22 c23 c24 c25 c26 c27 c28 c29 c30 c31 c32 c33 c34 c35 c36 : Value) (Q : Exit → Act → World → Prop) (HK : Hid (∀ u20 u21 u22 u23 u24 u25 u26 u27 u28 u29 u30 u31 u32 u33 u34 u35 wz, Touch S W1 wz → TDone s vr W1 B vc (cs.map ccell ++ [ccell (p.b, rowB p)]) undef wz → Q .normal ⟨(.int .u32 (s : Int) :: .slice (some y) n c1 :: c2 :: c3 :: c4 :: c5 :: c6 :: .pointer (some ⟨B, 0, none⟩) :: .int .i64 (k : Int) :: c9 :: c10 :: c11 :: c12 :: c13 :: c14 :: c15 :: c16 :: c17 :: c18 :: c19 :: u20 :: u21 :: u22 :: u23 :: u24 :: u25 :: u26 :: u27 :: u28 :: u29 :: u30 :: u31 :: u32 :: u33 :: u34 :: u35 :: c36 :: []).toArray, []⟩ wz)) : transReg5.wp Try.prog Q ⟨(.int .u32 (s : Int) :: .slice (some y) n c1 :: c2 :: c3 :: c4 :: c5 :: c6 :: .pointer (some ⟨B, 0, none⟩) :: .int .i64 (k : Int) :: c9 :: c10 :: c11 :: c12 :: c13 :: c14 :: c15 :: c16 :: c17 :: c18 :: c19 :: c20 :: c21 :: c22 :: c23 :: c24 :: c25 :: c26 :: c27 :: c28 :: c29 :: c30 :: c31 :: c32 :: c33 :: c34 :: c35 :: c36 :: []).toArray, []⟩ W1 := by
  obtain ⟨i0, hi, hz0, hz1, hz2⟩ := info_parts info40
  have HI := Lib.hid hi
  clear hi
  have HRB := Lib.hid (rowB_length p)
  have HBW := Lib.hid (built_copy p.b (rowB p) HRB.out)
  have HLB := Lib.hid (HLT.out B HIB.out)
  have HLW := Lib.hid (fun g hg => HLT.out g (HIW.out g hg))
  have HSW := Lib.hid (Nat.le_refl W1.heap.size)
  have hk0 : (0 : Int) ≤ (k : Int) := by omega
  have hk1 : (k : Int) < (n : Int) := by have := HKN.out; omega
  have HN0 := Lib.hid (show ∀ p ∈ ([(1, fun wx => wx.cell? ⟨B, 1, none⟩ = some vc), (14, fun wx => CRow wx vc cs), (16, fun wx => wx.heap[B]? = some (tObj s vc vr))] : List (Nat × (World → Prop))), p.2 W1.drew by
    intro p hp
    simp only [List.mem_cons, List.not_mem_nil, or_false] at hp
    rcases hp with rfl | rfl | rfl
    · exact cell_at HOB.out 1
    · exact HRW.out.kept (Touch.drew [] W1) (by simp)
    · exact HOB.out)
  conv => arg 2; whnf
  refine wp_region_factsN [13, 14, 16] [(1, fun wx => wx.cell? ⟨B, 1, none⟩ = some vc), (14, fun wx => CRow wx vc cs), (16, fun wx => wx.heap[B]? = some (tObj s vc vr))] (by kernel_rfl) [[], [(0, some 20)], [], [], [(2, some 22), (3, some 23)], [(4, some 24)], [(5, some 25)], [], [], [(7, some 27), (8, some 28)], [(9, some 29)], [(10, some 30)], [(6, some 26), (11, some 31)], [(12, some 32)], [(1, some 21), (11, some 31), (13, some 33)], [(0, some 20), (1, some 21), (2, some 22), (3, some 23), (4, some 24), (5, some 25), (6, some 26), (7, some 27), (8, some 28), (9, some 29), (10, some 30), (11, some 31), (12, some 32), (13, some 33), (14, some 34)], [(0, some 20), (1, some 21), (2, some 22), (3, some 23), (4, some 24), (5, some 25), (6, some 26), (7, some 27), (8, some 28), (9, some 29), (10, some 30), (11, some 31), (12, some 32), (13, some 33), (14, some 34), (15, some 35)]] [(0, some 20), (1, some 21), (2, some 22), (3, some 23), (4, some 24), (5, some 25), (6, some 26), (7, some 27), (8, some 28), (9, some 29), (10, some 30), (11, some 31), (12, some 32), (13, some 33), (14, some 34), (15, some 35), (16, none)] (by kernel_rfl) (by kernel_rfl) (by kernel_rfl) (Touch S) (Touch.refl S) (fun _ _ _ h h' => h.trans h' (fun i hi => .inl hi)) [Is (Value.pointer (some ⟨B, 1, none⟩)), Is (vc), Is (Value.slice (some y) n c1), Is (Value.int .i64 (k : Int)), Is (Value.pointer (some (y.add (k * 3)))), Is (Value.pointer (some (y.add (k * 3)))), Is (Value.int .i64 p.b), Is (Value.slice (some y) n c1), Is (Value.int .i64 (k : Int)), Is (Value.pointer (some (y.add (k * 3)))), Is (Value.agg (rcell p).toArray), Is (Value.agg (bc (rowB p)).toArray), Is (Value.agg (ccell (p.b, rowB p)).toArray), OneAtE 40 S W1 (ccell (p.b, rowB p)), AppAtE 40 257 W1 vc (cs.map ccell ++ [ccell (p.b, rowB p)]), Is (Value.pointer (some ⟨B, 1, none⟩)), TDone s vr W1 B vc (cs.map ccell ++ [ccell (p.b, rowB p)])] rfl ⟨.inr (is_stab _ _), .inr (is_stab _ _), .inr (is_stab _ _), .inr (is_stab _ _), .inr (is_stab _ _), .inr (is_stab _ _), .inr (is_stab _ _), .inr (is_stab _ _), .inr (is_stab _ _), .inr (is_stab _ _), .inr (is_stab _ _), .inr (is_stab _ _), .inr (is_stab _ _), .inl (by simp), .inl (by simp), .inr (is_stab _ _), .inl (by simp), trivial⟩ HN0.out ⟨?o0, ?o1, ?o2, ?o3, ?o4, ?o5, ?o6, ?o7, ?o8, ?o9, ?o10, ?o11, ?o12, ?o13, ?o14, ?o15, ?o16, trivial⟩ ?_
  case o0 =>
    intro vals wq hRq hNq hpq
    simp only [List.getD_cons_zero, List.getD_cons_succ, canonP]
    simp only [Oper.gives]
    go_simp
    first | exact ⟨is_mk _ _, (Touch.refl S) _⟩ | exact ⟨is_mk _ _, (Touch.refl S) _, (fun _ _ _ _ h => h), (fun _ _ _ _ _ h => h)⟩
  case o1 =>
    intro vals wq hRq hNq hpq
    simp only [factsP, List.getD_cons_zero, List.getD_cons_succ] at hpq
    have f0 := hpq.1
    replace hpq := hpq.2
    clear hpq
    replace f0 : vals 0 = _ := f0
    simp only [List.getD_cons_zero, List.getD_cons_succ, canonP, f0]
    clear f0
    have hcc : wq.cell? ⟨B, 1, none⟩ = some vc := hNq (1, fun wx => wx.cell? ⟨B, 1, none⟩ = some vc) (List.Mem.head _) rfl
    simp only [Oper.gives]
    go_simp
    first | exact ⟨is_mk _ _, Touch.refl _ _⟩ | exact ⟨is_mk _ _, Touch.refl _ _, (fun _ _ _ _ h => h), (fun _ _ _ _ _ h => h)⟩
  case o2 =>
    intro vals wq hRq hNq hpq
    simp only [List.getD_cons_zero, List.getD_cons_succ, canonP]
    simp only [Oper.gives]
    go_simp
    first | exact ⟨is_mk _ _, (Touch.refl S) _⟩ | exact ⟨is_mk _ _, (Touch.refl S) _, (fun _ _ _ _ h => h), (fun _ _ _ _ _ h => h)⟩
  case o3 =>
    intro vals wq hRq hNq hpq
    simp only [List.getD_cons_zero, List.getD_cons_succ, canonP]
    simp only [Oper.gives]
    go_simp
    first | exact ⟨is_mk _ _, (Touch.refl S) _⟩ | exact ⟨is_mk _ _, (Touch.refl S) _, (fun _ _ _ _ h => h), (fun _ _ _ _ _ h => h)⟩
  case o4 =>
    intro vals wq hRq hNq hpq
    simp only [factsP, List.getD_cons_zero, List.getD_cons_succ] at hpq
    have f2 := hpq.1
    replace hpq := hpq.2
    have f3 := hpq.1
    replace hpq := hpq.2
    clear hpq
    replace f2 : vals 2 = _ := f2
    replace f3 : vals 3 = _ := f3
    simp only [List.getD_cons_zero, List.getD_cons_succ, canonP, f2, f3]
    clear f2 f3
    simp only [Oper.gives]
    go_simp
    first | exact ⟨is_mk _ _, (Touch.refl S) _⟩ | exact ⟨is_mk _ _, (Touch.refl S) _, (fun _ _ _ _ h => h), (fun _ _ _ _ _ h => h)⟩
  case o5 =>
    intro vals wq hRq hNq hpq
    simp only [factsP, List.getD_cons_zero, List.getD_cons_succ] at hpq
    have f4 := hpq.1
    replace hpq := hpq.2
    clear hpq
    replace f4 : vals 4 = _ := f4
    simp only [List.getD_cons_zero, List.getD_cons_succ, canonP, f4]
    clear f4
    simp only [Oper.gives]
    go_simp
    first | exact ⟨is_mk _ _, (Touch.refl S) _⟩ | exact ⟨is_mk _ _, (Touch.refl S) _, (fun _ _ _ _ h => h), (fun _ _ _ _ _ h => h)⟩
  case o6 =>
    intro vals wq hRq hNq hpq
    simp only [factsP, List.getD_cons_zero, List.getD_cons_succ] at hpq
    have f5 := hpq.1
    replace hpq := hpq.2
    clear hpq
    replace f5 : vals 5 = _ := f5
    simp only [List.getD_cons_zero, List.getD_cons_succ, canonP, f5]
    clear f5
    have hc0 : wq.cell? (y.add (k * 3)) = some (.int .i64 p.b) := (hRq.cell (a := y.add (k * 3)) (by first | (rw [add_block']; exact HYL.out) | (rw [add_block', add_block']; exact HYL.out)) (by first | (rw [add_block']; exact HYS.out) | (rw [add_block', add_block']; exact HYS.out))).trans HA.out.1
    simp only [Oper.gives]
    go_simp
    first | exact ⟨is_mk _ _, Touch.refl _ _⟩ | exact ⟨is_mk _ _, Touch.refl _ _, (fun _ _ _ _ h => h), (fun _ _ _ _ _ h => h)⟩
  case o7 =>
    intro vals wq hRq hNq hpq
    simp only [List.getD_cons_zero, List.getD_cons_succ, canonP]
    simp only [Oper.gives]
    go_simp
    first | exact ⟨is_mk _ _, (Touch.refl S) _⟩ | exact ⟨is_mk _ _, (Touch.refl S) _, (fun _ _ _ _ h => h), (fun _ _ _ _ _ h => h)⟩
  case o8 =>
    intro vals wq hRq hNq hpq
    simp only [List.getD_cons_zero, List.getD_cons_succ, canonP]
    simp only [Oper.gives]
    go_simp
    first | exact ⟨is_mk _ _, (Touch.refl S) _⟩ | exact ⟨is_mk _ _, (Touch.refl S) _, (fun _ _ _ _ h => h), (fun _ _ _ _ _ h => h)⟩
  case o9 =>
    intro vals wq hRq hNq hpq
    simp only [factsP, List.getD_cons_zero, List.getD_cons_succ] at hpq
    have f7 := hpq.1
    replace hpq := hpq.2
    have f8 := hpq.1
    replace hpq := hpq.2
    clear hpq
    replace f7 : vals 7 = _ := f7
    replace f8 : vals 8 = _ := f8
    simp only [List.getD_cons_zero, List.getD_cons_succ, canonP, f7, f8]
    clear f7 f8
    simp only [Oper.gives]
    go_simp
    first | exact ⟨is_mk _ _, (Touch.refl S) _⟩ | exact ⟨is_mk _ _, (Touch.refl S) _, (fun _ _ _ _ h => h), (fun _ _ _ _ _ h => h)⟩
  case o10 =>
    intro vals wq hRq hNq hpq
    simp only [factsP, List.getD_cons_zero, List.getD_cons_succ] at hpq
    have f9 := hpq.1
    replace hpq := hpq.2
    clear hpq
    replace f9 : vals 9 = _ := f9
    simp only [List.getD_cons_zero, List.getD_cons_succ, canonP, f9]
    clear f9
    have hc0 : wq.cell? (y.add (k * 3)) = some (.int .i64 p.b) := (hRq.cell (a := y.add (k * 3)) (by first | (rw [add_block']; exact HYL.out) | (rw [add_block', add_block']; exact HYL.out)) (by first | (rw [add_block']; exact HYS.out) | (rw [add_block', add_block']; exact HYS.out))).trans HA.out.1
    have hc1 : wq.cell? { block := (y.add (k * 3)).block, off := (y.add (k * 3)).off + 1 } = some (.int .u8 (p.f : Int)) := (hRq.cell (a := (y.add (k * 3)).add 1) (by first | (rw [add_block']; exact HYL.out) | (rw [add_block', add_block']; exact HYL.out)) (by first | (rw [add_block']; exact HYS.out) | (rw [add_block', add_block']; exact HYS.out))).trans HA.out.2.1
    have hc2 : wq.cell? { block := (y.add (k * 3)).block, off := (y.add (k * 3)).off + 2 } = some (.bool p.m) := (hRq.cell (a := (y.add (k * 3)).add 2) (by first | (rw [add_block']; exact HYL.out) | (rw [add_block', add_block']; exact HYL.out)) (by first | (rw [add_block']; exact HYS.out) | (rw [add_block', add_block']; exact HYS.out))).trans HA.out.2.2.1
    simp only [Oper.gives]
    go_simp
    first | exact ⟨is_mk _ _, Touch.refl _ _⟩ | exact ⟨is_mk _ _, Touch.refl _ _, (fun _ _ _ _ h => h), (fun _ _ _ _ _ h => h)⟩
  case o11 =>
    intro vals wq hRq hNq hpq
    simp only [factsP, List.getD_cons_zero, List.getD_cons_succ] at hpq
    have f10 := hpq.1
    replace hpq := hpq.2
    clear hpq
    replace f10 : vals 10 = _ := f10
    simp only [List.getD_cons_zero, List.getD_cons_succ, canonP, f10]
    clear f10
    simp only [Oper.gives]
    go_simp
    refine (rowblock_ok p wq).mono fun e w' h => ⟨_, h.1, is_mk _ _, Touch.of_below h.2, ?_, ?_⟩
    · have hn := keepT (s := s) (vr := vr) (cs := cs) (j := 0) (pj := []) HLB.out HLW.out hRq.size (Touch.of_below (S := []) h.2) (by simp) (by simp)
      exact ⟨hn _ (List.Mem.head _) (by simp) (by simp), hn _ (List.Mem.tail _ (List.Mem.head _)) (by simp) (by simp), hn _ (List.Mem.tail _ (List.Mem.tail _ (List.Mem.head _))) (by simp) (by simp)⟩
    · exact fun u hu => OneAtE.touch hu (Touch.of_below (S := []) h.2) (by simp)
  case o12 =>
    intro vals wq hRq hNq hpq
    simp only [factsP, List.getD_cons_zero, List.getD_cons_succ] at hpq
    have f6 := hpq.1
    replace hpq := hpq.2
    have f11 := hpq.1
    replace hpq := hpq.2
    clear hpq
    replace f6 : vals 6 = _ := f6
    replace f11 : vals 11 = _ := f11
    simp only [List.getD_cons_zero, List.getD_cons_succ, canonP, f6, f11]
    clear f6 f11
    rw [if_pos (by rfl)]
    exact gives_build 40 _ rfl (ccell (p.b, rowB p)).toArray (by simp only [List.map_toArray, List.map_cons, List.map_nil]; exact HBW.out) ⟨is_mk _ _, Touch.refl _ _, (fun _ _ _ _ h => h), (fun _ _ _ _ _ h => h)⟩
  case o13 =>
    intro vals wq hRq hNq hpq
    simp only [factsP, List.getD_cons_zero, List.getD_cons_succ] at hpq
    have f12 := hpq.1
    replace hpq := hpq.2
    clear hpq
    replace f12 : vals 12 = _ := f12
    simp only [List.getD_cons_zero, List.getD_cons_succ, canonP, f12]
    clear f12
    have hsz : W1.heap.size ≤ wq.heap.size := hRq.size
    rw [if_pos (by rfl)]
    refine gives_buildSlice 33 1 _ rfl (v := .slice (some ⟨wq.heap.size, 0, none⟩) 1 1) (w' := wq.alloc (.cells (ccell (p.b, rowB p)).toArray 40)) (by simp only [List.map_toArray, List.map_cons, List.map_nil]; exact buildSlice_copy (p.b, rowB p) HRB.out wq) ⟨⟨rfl, heap_alloc_last _ _, (fun hm => by have := HLT.out _ hm; simp only [Value.ownBlock, Option.getD_some] at this; omega), hsz⟩, Touch.alloc _ _ _, ?_, ?_⟩
    · exact keepT HLB.out HLW.out hsz (Touch.alloc [] wq _) (by simp) (by simp)
    · intro q hq hne hnp; exact absurd hq (by intro hq; simp at hq; rcases hq with rfl | rfl | rfl <;> first | exact hne rfl | exact hnp (by simp))
  case o14 =>
    intro vals wq hRq hNq hpq
    simp only [factsP, List.getD_cons_zero, List.getD_cons_succ] at hpq
    have f1 := hpq.1
    replace hpq := hpq.2
    have f11 := hpq.1
    replace hpq := hpq.2
    have f13 := hpq.1
    replace hpq := hpq.2
    clear hpq
    replace f1 : vals 1 = _ := f1
    replace f11 : vals 11 = _ := f11
    simp only [List.getD_cons_zero, List.getD_cons_succ, canonP, f1, f11]
    clear f1 f11
    have hrow : CRow wq vc cs := hNq (14, fun wx => CRow wx vc cs) (List.Mem.tail _ (List.Mem.head _)) rfl
    have hsz : W1.heap.size ≤ wq.heap.size := hRq.size
    rw [if_pos (by rfl)]
    refine gives_append _ _ 33 rfl 40 i0 (.agg (ccell zeroC).toArray) 257 264 Try.underlying33 HI.out hz0 hz1 hz2 (by show (ccell zeroC).toArray.size = 257; rw [List.size_toArray, ccell_length zeroC_ok]) (by omega) vc (cs.map ccell) rfl hrow _ 1 (ccell (p.b, rowB p)) f13.1 (ccell_length HRB.out) (cells_add f13.2.1) (ccell_one _) (by rw [List.length_map]; exact HWS.out) (by omega) ?_
    intro v' w' hrow' hg hown hne
    refine ⟨⟨hrow', ?_⟩, Touch.grown hg HIW.out, ?_, ?_⟩
    · rcases hown with h | h; exact .inl h; exact .inr ⟨_, h, hsz⟩
    · intro q hp; simp only [List.mem_cons, List.not_mem_nil, or_false] at hp; rcases hp with rfl | rfl | rfl
      · intro _ hn; exact absurd (by simp) hn
      · intro hn; exact absurd rfl hn
      · intro _ _ h; exact (hg.block B (Nat.lt_of_lt_of_le HLB.out (Nat.le_trans HSW.out hsz)) (fun e => (HBW2.out B e.symm) rfl)).trans h
    · intro k hk hne hnp u hu; simp only [List.mem_cons, List.not_mem_nil, or_false] at hk; rcases hk with rfl | rfl | rfl
      · exact OneAtE.grown hu hg HIW.out
      · exact absurd rfl hne
      · exact absurd (by simp) hnp
  case o15 =>
    intro vals wq hRq hNq hpq
    simp only [factsP, List.getD_cons_zero, List.getD_cons_succ] at hpq
    have f0 := hpq.1
    replace hpq := hpq.2
    have f1 := hpq.1
    replace hpq := hpq.2
    have f2 := hpq.1
    replace hpq := hpq.2
    have f3 := hpq.1
    replace hpq := hpq.2
    have f4 := hpq.1
    replace hpq := hpq.2
    have f5 := hpq.1
    replace hpq := hpq.2
    have f6 := hpq.1
    replace hpq := hpq.2
    have f7 := hpq.1
    replace hpq := hpq.2
    have f8 := hpq.1
    replace hpq := hpq.2
    have f9 := hpq.1
    replace hpq := hpq.2
    have f10 := hpq.1
    replace hpq := hpq.2
    have f11 := hpq.1
    replace hpq := hpq.2
    have f12 := hpq.1
    replace hpq := hpq.2
    have f13 := hpq.1
    replace hpq := hpq.2
    have f14 := hpq.1
    replace hpq := hpq.2
    clear hpq
    replace f0 : vals 0 = _ := f0
    replace f1 : vals 1 = _ := f1
    replace f2 : vals 2 = _ := f2
    replace f3 : vals 3 = _ := f3
    replace f4 : vals 4 = _ := f4
    replace f5 : vals 5 = _ := f5
    replace f6 : vals 6 = _ := f6
    replace f7 : vals 7 = _ := f7
    replace f8 : vals 8 = _ := f8
    replace f9 : vals 9 = _ := f9
    replace f10 : vals 10 = _ := f10
    replace f11 : vals 11 = _ := f11
    replace f12 : vals 12 = _ := f12
    simp only [List.getD_cons_zero, List.getD_cons_succ, canonP, f0, f1, f2, f3, f4, f5, f6, f7, f8, f9, f10, f11, f12]
    clear f0 f1 f2 f3 f4 f5 f6 f7 f8 f9 f10 f11 f12
    simp only [Oper.gives]
    go_simp
    first | exact ⟨is_mk _ _, (Touch.refl S) _⟩ | exact ⟨is_mk _ _, (Touch.refl S) _, (fun _ _ _ _ h => h), (fun _ _ _ _ _ h => h)⟩
  case o16 =>
    intro vals wq hRq hNq hpq
    simp only [factsP, List.getD_cons_zero, List.getD_cons_succ] at hpq
    have f0 := hpq.1
    replace hpq := hpq.2
    have f1 := hpq.1
    replace hpq := hpq.2
    have f2 := hpq.1
    replace hpq := hpq.2
    have f3 := hpq.1
    replace hpq := hpq.2
    have f4 := hpq.1
    replace hpq := hpq.2
    have f5 := hpq.1
    replace hpq := hpq.2
    have f6 := hpq.1
    replace hpq := hpq.2
    have f7 := hpq.1
    replace hpq := hpq.2
    have f8 := hpq.1
    replace hpq := hpq.2
    have f9 := hpq.1
    replace hpq := hpq.2
    have f10 := hpq.1
    replace hpq := hpq.2
    have f11 := hpq.1
    replace hpq := hpq.2
    have f12 := hpq.1
    replace hpq := hpq.2
    have f13 := hpq.1
    replace hpq := hpq.2
    have f14 := hpq.1
    replace hpq := hpq.2
    have f15 := hpq.1
    replace hpq := hpq.2
    clear hpq
    replace f0 : vals 0 = _ := f0
    replace f1 : vals 1 = _ := f1
    replace f2 : vals 2 = _ := f2
    replace f3 : vals 3 = _ := f3
    replace f4 : vals 4 = _ := f4
    replace f5 : vals 5 = _ := f5
    replace f6 : vals 6 = _ := f6
    replace f7 : vals 7 = _ := f7
    replace f8 : vals 8 = _ := f8
    replace f9 : vals 9 = _ := f9
    replace f10 : vals 10 = _ := f10
    replace f11 : vals 11 = _ := f11
    replace f12 : vals 12 = _ := f12
    replace f15 : vals 15 = _ := f15
    simp only [List.getD_cons_zero, List.getD_cons_succ, canonP, f0, f1, f2, f3, f4, f5, f6, f7, f8, f9, f10, f11, f12, f15]
    clear f0 f1 f2 f3 f4 f5 f6 f7 f8 f9 f10 f11 f12 f15
    have hob : wq.heap[B]? = some (tObj s vc vr) := hNq (16, fun wx => wx.heap[B]? = some (tObj s vc vr)) (List.Mem.tail _ (List.Mem.tail _ (List.Mem.head _))) rfl
    have hcc : wq.cell? ⟨B, 1, none⟩ = some vc := cell_at hob 1
    have hff : wq.frozen? ⟨B, 1, none⟩ = false := frozen_at hob 1
    simp only [Act.put, List.setIfInBounds_toArray, List.set_cons_succ, List.set_cons_zero]
    rw [if_pos (by rfl)]
    refine gives_storeC wq B vc (vals 14) rfl rfl rfl hcc hff (rowSlice f14.1) ⟨?_, Touch.setCell wq HIB.out _, ?_, ?_⟩
    · exact ⟨vals 14, heap_set hob 1 _, f14.1.kept (Touch.setCell (S := [B]) wq (by simp) _) (fun g hg => by simpa using AppAtE.ne f14 HBW2.out HLB.out hg), f14.2⟩
    · intro q hp; simp only [List.mem_cons, List.not_mem_nil, or_false] at hp; rcases hp with rfl | rfl | rfl
      · intro _ hn; exact absurd (by simp) hn
      · intro _ hn; exact absurd (by simp) hn
      · intro hn; exact absurd rfl hn
    · intro k hk hne hnp u hu; simp only [List.mem_cons, List.not_mem_nil, or_false] at hk; rcases hk with rfl | rfl | rfl
      · exact OneAtE.touch hu (Touch.setCell (S := [B]) wq (by simp) _) (by intro k hk; rw [List.mem_singleton.1 hk]; exact HIB.out)
      · exact ⟨hu.1.kept (Touch.setCell (S := [B]) wq (by simp) _) (fun g hg => by simpa using AppAtE.ne hu HBW2.out HLB.out hg), hu.2⟩
      · exact absurd rfl hne
  intro vals wz hRwz hfwz
  simp only [AllFacts] at hfwz
  have g0 := hfwz.1
  replace hfwz := hfwz.2
  have g1 := hfwz.1
  replace hfwz := hfwz.2
  have g2 := hfwz.1
  replace hfwz := hfwz.2
  have g3 := hfwz.1
  replace hfwz := hfwz.2
  have g4 := hfwz.1
  replace hfwz := hfwz.2
  have g5 := hfwz.1
  replace hfwz := hfwz.2
  have g6 := hfwz.1
  replace hfwz := hfwz.2
  have g7 := hfwz.1
  replace hfwz := hfwz.2
  have g8 := hfwz.1
  replace hfwz := hfwz.2
  have g9 := hfwz.1
  replace hfwz := hfwz.2
  have g10 := hfwz.1
  replace hfwz := hfwz.2
  have g11 := hfwz.1
  replace hfwz := hfwz.2
  have g12 := hfwz.1
  replace hfwz := hfwz.2
  have g13 := hfwz.1
  replace hfwz := hfwz.2
  have g14 := hfwz.1
  replace hfwz := hfwz.2
  have g15 := hfwz.1
  replace hfwz := hfwz.2
  have g16 := hfwz.1
  replace hfwz := hfwz.2
  clear hfwz
  replace g0 : vals 0 = _ := g0
  replace g1 : vals 1 = _ := g1
  replace g2 : vals 2 = _ := g2
  replace g3 : vals 3 = _ := g3
  replace g4 : vals 4 = _ := g4
  replace g5 : vals 5 = _ := g5
  replace g6 : vals 6 = _ := g6
  replace g7 : vals 7 = _ := g7
  replace g8 : vals 8 = _ := g8
  replace g9 : vals 9 = _ := g9
  replace g10 : vals 10 = _ := g10
  replace g11 : vals 11 = _ := g11
  replace g12 : vals 12 = _ := g12
  replace g15 : vals 15 = _ := g15
  simp only [canonP, Act.put, List.setIfInBounds_toArray, List.set_cons_succ, List.set_cons_zero, g0, g1, g2, g3, g4, g5, g6, g7, g8, g9, g10, g11, g12, g15]
  clear g0 g1 g2 g3 g4 g5 g6 g7 g8 g9 g10 g11 g12 g13 g14 g15
  exact HK.out _ _ _ _ _ _ _ _ _ _ _ _ _ _ _ _ _ ((Touch.drew S W1).trans hRwz (fun i hi => .inl hi)) g16
#print axioms trans_reg5
end Go.Proofs.Ytlhhbkpocpnebaa
