/- Flush: a write that waits is made safe. -/
import Derived.Test.YtieknecbheeekaaD11
set_option linter.unusedVariables false
set_option linter.unusedSimpArgs false
namespace Go.Proofs.Ytieknecbheeekaa
open Go.RowKit
def isReg (k : Nat) : Code → Bool
  | .region i _ _ => i == k
  | _ => false
def regById (k : Nat) (l : List Code) : Code := (l.find? (isReg k)).getD .skip
theorem range_touch {w w' : World} {g o : Nat} {c : List Value} {S : List Nat} (h : w.rangeAt g o c) (ht : Touch S w w') (hg : g < w.heap.size) (hn : g ∉ S) : w'.rangeAt g o c :=
  fun j v hv => (ht.cell (a := ⟨g, o + j, none⟩) hg hn).trans (h j v hv)

noncomputable def flushCode : Code := (regById 7 (codesOf (Try.f43.body.getD .skip)))
set_option maxRecDepth 100000 in
set_option maxHeartbeats 2000000 in
theorem flush_reg (B gs n cs gw m cw i b : Nat) (x : Blk) (l : List Blk) (W1 : World) (HC0 : Hid (W1.cell? ⟨B, 0, none⟩ = some (.slice (some ⟨gs, 0, none⟩) n cs))) (HC2 : Hid (W1.cell? ⟨B, 2, none⟩ = some (.slice (some ⟨gw, 0, none⟩) m cw))) (HLB : Hid (B < W1.heap.size)) (HBG : Hid (B ∉ [gs])) (HLW : Hid (gw < W1.heap.size)) (HWG : Hid (gw ∉ [gs]))
    (HRW : Hid (W1.rangeAt gw (i * 257) (wc (b, x)))) (HXl : Hid (x.length = 256)) (hi : i < m) (HRL : Hid (Row W1 44 256 (.slice (some ⟨gs, 0, none⟩) n cs) (l.map bc))) (hb : b < l.length) (hln : l.length = n)
    (c1 c2 c3 c5 c6 c7 c8 c9 c10 c11 c12 c13 c14 c15 c16 c17 c18 c19 c20 c21 c22 c23 c24 c25 c26 c27 c28 c29 c30 c31 c32 c33 c34 c35 c36 c37 c38 c39 c40 c41 c42 c43 c44 : Value) (Q : Exit → Act → World → Prop) (HK : Hid (∀ u18 u19 u20 u21 u22 u23 u24 u25 u26 u27 u28 u29 u30 u31 u32 u33 u34 u35 u36 u37 u38 wz, Touch [gs] W1 wz → Row wz 44 256 (.slice (some ⟨gs, 0, none⟩) n cs) ((l.set b x).map bc) → Q .normal ⟨(.pointer (some ⟨B, 0, none⟩) :: c1 :: c2 :: c3 :: .int .i64 (i : Int) :: c5 :: c6 :: c7 :: c8 :: c9 :: c10 :: c11 :: c12 :: c13 :: c14 :: c15 :: c16 :: c17 :: u18 :: u19 :: u20 :: u21 :: u22 :: u23 :: u24 :: u25 :: u26 :: u27 :: u28 :: u29 :: u30 :: u31 :: u32 :: u33 :: u34 :: u35 :: u36 :: u37 :: u38 :: c39 :: c40 :: c41 :: c42 :: c43 :: c44 :: []).toArray, []⟩ wz)) : flushCode.wp Try.prog Q ⟨(.pointer (some ⟨B, 0, none⟩) :: c1 :: c2 :: c3 :: .int .i64 (i : Int) :: c5 :: c6 :: c7 :: c8 :: c9 :: c10 :: c11 :: c12 :: c13 :: c14 :: c15 :: c16 :: c17 :: c18 :: c19 :: c20 :: c21 :: c22 :: c23 :: c24 :: c25 :: c26 :: c27 :: c28 :: c29 :: c30 :: c31 :: c32 :: c33 :: c34 :: c35 :: c36 :: c37 :: c38 :: c39 :: c40 :: c41 :: c42 :: c43 :: c44 :: []).toArray, []⟩ W1 := by
  have HSz := Lib.hid (show (Try.prog.info? 44).map (·.size) = some (bc x).toArray.size by rw [List.size_toArray, bc_length, HXl.out]; exact size32)
  have HSl := Lib.hid (show (Try.prog.info? 44).map (·.size) = some (bc x).length by rw [bc_length, HXl.out]; exact size32)
  have HXb := Lib.hid (show (bc x).length = 256 by rw [bc_length]; exact HXl.out)
  have HBL := Lib.hid (show b < (l.map bc).length by rw [List.length_map]; exact hb)
  have HI0 := Lib.hid (show (0 : Int) ≤ (i : Int) by omega)
  have HI1 := Lib.hid (show (i : Int) < (m : Int) by omega)
  have HB0 := Lib.hid (show (0 : Int) ≤ (b : Int) by omega)
  have HB1 := Lib.hid (show (b : Int) < (n : Int) by omega)
  have HCB := Lib.hid (show W1.cell? ⟨gw, i * 257, none⟩ = some (.int .i64 (b : Int)) from HRW.out 0 _ rfl)
  have HRX := Lib.hid (show W1.rangeAt gw (i * 257 + 1) (bc x) from fun j v hv => by
    have := HRW.out (j + 1) v (by simpa [wc] using hv)
    rw [show i * 257 + (j + 1) = i * 257 + 1 + j by omega] at this
    exact this)
  have HN0 := Lib.hid (show ∀ p ∈ ([(21, fun wx => Row wx 44 256 (.slice (some ⟨gs, 0, none⟩) n cs) (l.map bc))] : List (Nat × (World → Prop))), p.2 W1.drew by
    intro p hp
    simp only [List.mem_cons, List.not_mem_nil, or_false] at hp
    subst hp
    exact HRL.out.kept (Touch.drew [] W1) (by simp))
  clear hb hln hi
  conv => arg 2; whnf
  refine wp_region_factsN [21] [(21, fun wx => Row wx 44 256 (.slice (some ⟨gs, 0, none⟩) n cs) (l.map bc))] (by kernel_rfl) [[], [(0, some 18)], [(1, some 19)], [(2, some 20)], [], [(4, some 22)], [(5, some 23)], [(6, some 24)], [], [(7, some 25), (8, some 26)], [(9, some 27)], [(10, some 28)], [], [(12, some 30)], [(13, some 31)], [(14, some 32)], [], [(15, some 33), (16, some 34)], [(17, some 35)], [(18, some 36)], [(0, some 18), (1, some 19), (2, some 20), (3, some 21), (4, some 22), (5, some 23), (6, some 24), (7, some 25), (8, some 26), (9, some 27), (10, some 28), (11, some 29), (12, some 30), (13, some 31), (14, some 32), (15, some 33), (16, some 34), (17, some 35), (18, some 36), (19, some 37)], [(0, some 18), (1, some 19), (2, some 20), (3, some 21), (4, some 22), (5, some 23), (6, some 24), (7, some 25), (8, some 26), (9, some 27), (10, some 28), (11, some 29), (12, some 30), (13, some 31), (14, some 32), (15, some 33), (16, some 34), (17, some 35), (18, some 36), (19, some 37), (20, some 38)]] [(0, some 18), (1, some 19), (2, some 20), (3, some 21), (4, some 22), (5, some 23), (6, some 24), (7, some 25), (8, some 26), (9, some 27), (10, some 28), (11, some 29), (12, some 30), (13, some 31), (14, some 32), (15, some 33), (16, some 34), (17, some 35), (18, some 36), (19, some 37), (20, some 38), (21, none)] (by kernel_rfl) (by kernel_rfl) (by kernel_rfl) (Touch [gs]) (Touch.refl [gs]) (fun _ _ _ h h' => h.trans h' (fun i hi => .inl hi)) [Is (Value.pointer (some ⟨B, 0, none⟩)), Is (Value.pointer (some ⟨B, 0, none⟩)), Is (Value.pointer (some ⟨B, 0, none⟩)), Is (Value.slice (some ⟨gs, 0, none⟩) n cs), Is (Value.pointer (some ⟨B, 0, none⟩)), Is (Value.pointer (some ⟨B, 0, none⟩)), Is (Value.pointer (some ⟨B, 2, none⟩)), Is (Value.slice (some ⟨gw, 0, none⟩) m cw), Is (Value.int .i64 (i : Int)), Is (Value.pointer (some ⟨gw, i * 257, none⟩)), Is (Value.pointer (some ⟨gw, i * 257, none⟩)), Is (Value.int .i64 (b : Int)), Is (Value.pointer (some ⟨B, 0, none⟩)), Is (Value.pointer (some ⟨B, 0, none⟩)), Is (Value.pointer (some ⟨B, 2, none⟩)), Is (Value.slice (some ⟨gw, 0, none⟩) m cw), Is (Value.int .i64 (i : Int)), Is (Value.pointer (some ⟨gw, i * 257, none⟩)), Is (Value.pointer (some ⟨gw, i * 257 + 1, none⟩)), Is (Value.agg (bc x).toArray), Is (Value.pointer (some ⟨gs, b * 256, none⟩)), (fun _ wx => Row wx 44 256 (.slice (some ⟨gs, 0, none⟩) n cs) ((l.set b x).map bc))] rfl ⟨.inr (is_stab _ _), .inr (is_stab _ _), .inr (is_stab _ _), .inr (is_stab _ _), .inr (is_stab _ _), .inr (is_stab _ _), .inr (is_stab _ _), .inr (is_stab _ _), .inr (is_stab _ _), .inr (is_stab _ _), .inr (is_stab _ _), .inr (is_stab _ _), .inr (is_stab _ _), .inr (is_stab _ _), .inr (is_stab _ _), .inr (is_stab _ _), .inr (is_stab _ _), .inr (is_stab _ _), .inr (is_stab _ _), .inr (is_stab _ _), .inr (is_stab _ _), .inl (by simp), trivial⟩ HN0.out ⟨?o0, ?o1, ?o2, ?o3, ?o4, ?o5, ?o6, ?o7, ?o8, ?o9, ?o10, ?o11, ?o12, ?o13, ?o14, ?o15, ?o16, ?o17, ?o18, ?o19, ?o20, ?o21, trivial⟩ ?_
  case o0 =>
    intro vals wq hRq hNq hpq
    simp only [List.getD_cons_zero, List.getD_cons_succ, canonP]
    simp only [Oper.gives]
    go_simp
    first | exact ⟨is_mk _ _, (Touch.refl [gs]) _⟩ | exact ⟨is_mk _ _, (Touch.refl [gs]) _, (fun _ _ _ _ h => h), (fun _ _ _ _ _ h => h)⟩
  case o1 =>
    intro vals wq hRq hNq hpq
    simp only [factsP, List.getD_cons_zero, List.getD_cons_succ] at hpq
    have f0 := hpq.1
    replace hpq := hpq.2
    clear hpq
    replace f0 : vals 0 = _ := f0
    simp only [List.getD_cons_zero, List.getD_cons_succ, canonP, f0]
    clear f0
    simp only [Oper.gives]
    go_simp
    first | exact ⟨is_mk _ _, (Touch.refl [gs]) _⟩ | exact ⟨is_mk _ _, (Touch.refl [gs]) _, (fun _ _ _ _ h => h), (fun _ _ _ _ _ h => h)⟩
  case o2 =>
    intro vals wq hRq hNq hpq
    simp only [factsP, List.getD_cons_zero, List.getD_cons_succ] at hpq
    have f1 := hpq.1
    replace hpq := hpq.2
    clear hpq
    replace f1 : vals 1 = _ := f1
    simp only [List.getD_cons_zero, List.getD_cons_succ, canonP, f1]
    clear f1
    simp only [Oper.gives]
    go_simp
    first | exact ⟨is_mk _ _, (Touch.refl [gs]) _⟩ | exact ⟨is_mk _ _, (Touch.refl [gs]) _, (fun _ _ _ _ h => h), (fun _ _ _ _ _ h => h)⟩
  case o3 =>
    intro vals wq hRq hNq hpq
    simp only [factsP, List.getD_cons_zero, List.getD_cons_succ] at hpq
    have f2 := hpq.1
    replace hpq := hpq.2
    clear hpq
    replace f2 : vals 2 = _ := f2
    simp only [List.getD_cons_zero, List.getD_cons_succ, canonP, f2]
    clear f2
    have hcc : wq.cell? ⟨B, 0, none⟩ = some (.slice (some ⟨gs, 0, none⟩) n cs) := (hRq.cell (a := ⟨B, 0, none⟩) HLB.out HBG.out).trans HC0.out
    simp only [Oper.gives]
    go_simp
    first | exact ⟨is_mk _ _, Touch.refl _ _⟩ | exact ⟨is_mk _ _, Touch.refl _ _, (fun _ _ _ _ h => h), (fun _ _ _ _ _ h => h)⟩
  case o4 =>
    intro vals wq hRq hNq hpq
    simp only [List.getD_cons_zero, List.getD_cons_succ, canonP]
    simp only [Oper.gives]
    go_simp
    first | exact ⟨is_mk _ _, (Touch.refl [gs]) _⟩ | exact ⟨is_mk _ _, (Touch.refl [gs]) _, (fun _ _ _ _ h => h), (fun _ _ _ _ _ h => h)⟩
  case o5 =>
    intro vals wq hRq hNq hpq
    simp only [factsP, List.getD_cons_zero, List.getD_cons_succ] at hpq
    have f4 := hpq.1
    replace hpq := hpq.2
    clear hpq
    replace f4 : vals 4 = _ := f4
    simp only [List.getD_cons_zero, List.getD_cons_succ, canonP, f4]
    clear f4
    simp only [Oper.gives]
    go_simp
    first | exact ⟨is_mk _ _, (Touch.refl [gs]) _⟩ | exact ⟨is_mk _ _, (Touch.refl [gs]) _, (fun _ _ _ _ h => h), (fun _ _ _ _ _ h => h)⟩
  case o6 =>
    intro vals wq hRq hNq hpq
    simp only [factsP, List.getD_cons_zero, List.getD_cons_succ] at hpq
    have f5 := hpq.1
    replace hpq := hpq.2
    clear hpq
    replace f5 : vals 5 = _ := f5
    simp only [List.getD_cons_zero, List.getD_cons_succ, canonP, f5]
    clear f5
    simp only [Oper.gives]
    go_simp
    first | exact ⟨is_mk _ _, (Touch.refl [gs]) _⟩ | exact ⟨is_mk _ _, (Touch.refl [gs]) _, (fun _ _ _ _ h => h), (fun _ _ _ _ _ h => h)⟩
  case o7 =>
    intro vals wq hRq hNq hpq
    simp only [factsP, List.getD_cons_zero, List.getD_cons_succ] at hpq
    have f6 := hpq.1
    replace hpq := hpq.2
    clear hpq
    replace f6 : vals 6 = _ := f6
    simp only [List.getD_cons_zero, List.getD_cons_succ, canonP, f6]
    clear f6
    have hcc : wq.cell? ⟨B, 2, none⟩ = some (.slice (some ⟨gw, 0, none⟩) m cw) := (hRq.cell (a := ⟨B, 2, none⟩) HLB.out HBG.out).trans HC2.out
    simp only [Oper.gives]
    go_simp
    first | exact ⟨is_mk _ _, Touch.refl _ _⟩ | exact ⟨is_mk _ _, Touch.refl _ _, (fun _ _ _ _ h => h), (fun _ _ _ _ _ h => h)⟩
  case o8 =>
    intro vals wq hRq hNq hpq
    simp only [List.getD_cons_zero, List.getD_cons_succ, canonP]
    simp only [Oper.gives]
    go_simp
    first | exact ⟨is_mk _ _, (Touch.refl [gs]) _⟩ | exact ⟨is_mk _ _, (Touch.refl [gs]) _, (fun _ _ _ _ h => h), (fun _ _ _ _ _ h => h)⟩
  case o9 =>
    intro vals wq hRq hNq hpq
    simp only [factsP, List.getD_cons_zero, List.getD_cons_succ] at hpq
    have f7 := hpq.1
    replace hpq := hpq.2
    have f8 := hpq.1
    replace hpq := hpq.2
    clear hpq
    replace f7 : vals 7 = _ := f7
    replace f8 : vals 8 = _ := f8
    simp only [List.getD_cons_zero, List.getD_cons_succ, canonP, f7, f8]
    clear f7 f8
    have b0 := HI0.out
    have b1 := HI1.out
    simp only [Oper.gives]
    go_simp
    first | exact ⟨is_mk _ _, Touch.refl _ _⟩ | exact ⟨is_mk _ _, Touch.refl _ _, (fun _ _ _ _ h => h), (fun _ _ _ _ _ h => h)⟩
  case o10 =>
    intro vals wq hRq hNq hpq
    simp only [factsP, List.getD_cons_zero, List.getD_cons_succ] at hpq
    have f9 := hpq.1
    replace hpq := hpq.2
    clear hpq
    replace f9 : vals 9 = _ := f9
    simp only [List.getD_cons_zero, List.getD_cons_succ, canonP, f9]
    clear f9
    simp only [Oper.gives]
    go_simp
    first | exact ⟨is_mk _ _, (Touch.refl [gs]) _⟩ | exact ⟨is_mk _ _, (Touch.refl [gs]) _, (fun _ _ _ _ h => h), (fun _ _ _ _ _ h => h)⟩
  case o11 =>
    intro vals wq hRq hNq hpq
    simp only [factsP, List.getD_cons_zero, List.getD_cons_succ] at hpq
    have f10 := hpq.1
    replace hpq := hpq.2
    clear hpq
    replace f10 : vals 10 = _ := f10
    simp only [List.getD_cons_zero, List.getD_cons_succ, canonP, f10]
    clear f10
    have hcc : wq.cell? ⟨gw, i * 257, none⟩ = some (.int .i64 (b : Int)) := (hRq.cell (a := ⟨gw, i * 257, none⟩) HLW.out HWG.out).trans HCB.out
    simp only [Oper.gives]
    go_simp
    first | exact ⟨is_mk _ _, Touch.refl _ _⟩ | exact ⟨is_mk _ _, Touch.refl _ _, (fun _ _ _ _ h => h), (fun _ _ _ _ _ h => h)⟩
  case o12 =>
    intro vals wq hRq hNq hpq
    simp only [List.getD_cons_zero, List.getD_cons_succ, canonP]
    simp only [Oper.gives]
    go_simp
    first | exact ⟨is_mk _ _, (Touch.refl [gs]) _⟩ | exact ⟨is_mk _ _, (Touch.refl [gs]) _, (fun _ _ _ _ h => h), (fun _ _ _ _ _ h => h)⟩
  case o13 =>
    intro vals wq hRq hNq hpq
    simp only [factsP, List.getD_cons_zero, List.getD_cons_succ] at hpq
    have f12 := hpq.1
    replace hpq := hpq.2
    clear hpq
    replace f12 : vals 12 = _ := f12
    simp only [List.getD_cons_zero, List.getD_cons_succ, canonP, f12]
    clear f12
    simp only [Oper.gives]
    go_simp
    first | exact ⟨is_mk _ _, (Touch.refl [gs]) _⟩ | exact ⟨is_mk _ _, (Touch.refl [gs]) _, (fun _ _ _ _ h => h), (fun _ _ _ _ _ h => h)⟩
  case o14 =>
    intro vals wq hRq hNq hpq
    simp only [factsP, List.getD_cons_zero, List.getD_cons_succ] at hpq
    have f13 := hpq.1
    replace hpq := hpq.2
    clear hpq
    replace f13 : vals 13 = _ := f13
    simp only [List.getD_cons_zero, List.getD_cons_succ, canonP, f13]
    clear f13
    simp only [Oper.gives]
    go_simp
    first | exact ⟨is_mk _ _, (Touch.refl [gs]) _⟩ | exact ⟨is_mk _ _, (Touch.refl [gs]) _, (fun _ _ _ _ h => h), (fun _ _ _ _ _ h => h)⟩
  case o15 =>
    intro vals wq hRq hNq hpq
    simp only [factsP, List.getD_cons_zero, List.getD_cons_succ] at hpq
    have f14 := hpq.1
    replace hpq := hpq.2
    clear hpq
    replace f14 : vals 14 = _ := f14
    simp only [List.getD_cons_zero, List.getD_cons_succ, canonP, f14]
    clear f14
    have hcc : wq.cell? ⟨B, 2, none⟩ = some (.slice (some ⟨gw, 0, none⟩) m cw) := (hRq.cell (a := ⟨B, 2, none⟩) HLB.out HBG.out).trans HC2.out
    simp only [Oper.gives]
    go_simp
    first | exact ⟨is_mk _ _, Touch.refl _ _⟩ | exact ⟨is_mk _ _, Touch.refl _ _, (fun _ _ _ _ h => h), (fun _ _ _ _ _ h => h)⟩
  case o16 =>
    intro vals wq hRq hNq hpq
    simp only [List.getD_cons_zero, List.getD_cons_succ, canonP]
    simp only [Oper.gives]
    go_simp
    first | exact ⟨is_mk _ _, (Touch.refl [gs]) _⟩ | exact ⟨is_mk _ _, (Touch.refl [gs]) _, (fun _ _ _ _ h => h), (fun _ _ _ _ _ h => h)⟩
  case o17 =>
    intro vals wq hRq hNq hpq
    simp only [factsP, List.getD_cons_zero, List.getD_cons_succ] at hpq
    have f15 := hpq.1
    replace hpq := hpq.2
    have f16 := hpq.1
    replace hpq := hpq.2
    clear hpq
    replace f15 : vals 15 = _ := f15
    replace f16 : vals 16 = _ := f16
    simp only [List.getD_cons_zero, List.getD_cons_succ, canonP, f15, f16]
    clear f15 f16
    have b0 := HI0.out
    have b1 := HI1.out
    simp only [Oper.gives]
    go_simp
    first | exact ⟨is_mk _ _, Touch.refl _ _⟩ | exact ⟨is_mk _ _, Touch.refl _ _, (fun _ _ _ _ h => h), (fun _ _ _ _ _ h => h)⟩
  case o18 =>
    intro vals wq hRq hNq hpq
    simp only [factsP, List.getD_cons_zero, List.getD_cons_succ] at hpq
    have f17 := hpq.1
    replace hpq := hpq.2
    clear hpq
    replace f17 : vals 17 = _ := f17
    simp only [List.getD_cons_zero, List.getD_cons_succ, canonP, f17]
    clear f17
    simp only [Oper.gives]
    go_simp
    first | exact ⟨is_mk _ _, (Touch.refl [gs]) _⟩ | exact ⟨is_mk _ _, (Touch.refl [gs]) _, (fun _ _ _ _ h => h), (fun _ _ _ _ _ h => h)⟩
  case o19 =>
    intro vals wq hRq hNq hpq
    simp only [factsP, List.getD_cons_zero, List.getD_cons_succ] at hpq
    have f18 := hpq.1
    replace hpq := hpq.2
    clear hpq
    replace f18 : vals 18 = _ := f18
    simp only [List.getD_cons_zero, List.getD_cons_succ, canonP, f18]
    clear f18
    have hr := range_touch HRX.out ((Touch.drew [gs] W1).trans hRq (fun i hi => .inl hi)) HLW.out HWG.out
    rw [if_pos (by rfl)]
    exact gives_load_mid 44 _ rfl gw (i * 257 + 1) rfl (bc x) _ hr Try.underlying44 rfl HSl.out ⟨is_mk _ _, Touch.refl _ _, (fun _ _ _ _ h => h), (fun _ _ _ _ _ h => h)⟩
  case o20 =>
    intro vals wq hRq hNq hpq
    simp only [factsP, List.getD_cons_zero, List.getD_cons_succ] at hpq
    have f0 := hpq.1
    replace hpq := hpq.2
    have f1 := hpq.1
    replace hpq := hpq.2
    have f2 := hpq.1
    replace hpq := hpq.2
    have f3 := hpq.1
    replace hpq := hpq.2
    have f4 := hpq.1
    replace hpq := hpq.2
    have f5 := hpq.1
    replace hpq := hpq.2
    have f6 := hpq.1
    replace hpq := hpq.2
    have f7 := hpq.1
    replace hpq := hpq.2
    have f8 := hpq.1
    replace hpq := hpq.2
    have f9 := hpq.1
    replace hpq := hpq.2
    have f10 := hpq.1
    replace hpq := hpq.2
    have f11 := hpq.1
    replace hpq := hpq.2
    have f12 := hpq.1
    replace hpq := hpq.2
    have f13 := hpq.1
    replace hpq := hpq.2
    have f14 := hpq.1
    replace hpq := hpq.2
    have f15 := hpq.1
    replace hpq := hpq.2
    have f16 := hpq.1
    replace hpq := hpq.2
    have f17 := hpq.1
    replace hpq := hpq.2
    have f18 := hpq.1
    replace hpq := hpq.2
    have f19 := hpq.1
    replace hpq := hpq.2
    clear hpq
    replace f0 : vals 0 = _ := f0
    replace f1 : vals 1 = _ := f1
    replace f2 : vals 2 = _ := f2
    replace f3 : vals 3 = _ := f3
    replace f4 : vals 4 = _ := f4
    replace f5 : vals 5 = _ := f5
    replace f6 : vals 6 = _ := f6
    replace f7 : vals 7 = _ := f7
    replace f8 : vals 8 = _ := f8
    replace f9 : vals 9 = _ := f9
    replace f10 : vals 10 = _ := f10
    replace f11 : vals 11 = _ := f11
    replace f12 : vals 12 = _ := f12
    replace f13 : vals 13 = _ := f13
    replace f14 : vals 14 = _ := f14
    replace f15 : vals 15 = _ := f15
    replace f16 : vals 16 = _ := f16
    replace f17 : vals 17 = _ := f17
    replace f18 : vals 18 = _ := f18
    replace f19 : vals 19 = _ := f19
    simp only [List.getD_cons_zero, List.getD_cons_succ, canonP, f0, f1, f2, f3, f4, f5, f6, f7, f8, f9, f10, f11, f12, f13, f14, f15, f16, f17, f18, f19]
    clear f0 f1 f2 f3 f4 f5 f6 f7 f8 f9 f10 f11 f12 f13 f14 f15 f16 f17 f18 f19
    have b0 := HB0.out
    have b1 := HB1.out
    simp only [Oper.gives]
    go_simp
    first | exact ⟨is_mk _ _, Touch.refl _ _⟩ | exact ⟨is_mk _ _, Touch.refl _ _, (fun _ _ _ _ h => h), (fun _ _ _ _ _ h => h)⟩
  case o21 =>
    intro vals wq hRq hNq hpq
    simp only [factsP, List.getD_cons_zero, List.getD_cons_succ] at hpq
    have f0 := hpq.1
    replace hpq := hpq.2
    have f1 := hpq.1
    replace hpq := hpq.2
    have f2 := hpq.1
    replace hpq := hpq.2
    have f3 := hpq.1
    replace hpq := hpq.2
    have f4 := hpq.1
    replace hpq := hpq.2
    have f5 := hpq.1
    replace hpq := hpq.2
    have f6 := hpq.1
    replace hpq := hpq.2
    have f7 := hpq.1
    replace hpq := hpq.2
    have f8 := hpq.1
    replace hpq := hpq.2
    have f9 := hpq.1
    replace hpq := hpq.2
    have f10 := hpq.1
    replace hpq := hpq.2
    have f11 := hpq.1
    replace hpq := hpq.2
    have f12 := hpq.1
    replace hpq := hpq.2
    have f13 := hpq.1
    replace hpq := hpq.2
    have f14 := hpq.1
    replace hpq := hpq.2
    have f15 := hpq.1
    replace hpq := hpq.2
    have f16 := hpq.1
    replace hpq := hpq.2
    have f17 := hpq.1
    replace hpq := hpq.2
    have f18 := hpq.1
    replace hpq := hpq.2
    have f19 := hpq.1
    replace hpq := hpq.2
    have f20 := hpq.1
    replace hpq := hpq.2
    clear hpq
    replace f0 : vals 0 = _ := f0
    replace f1 : vals 1 = _ := f1
    replace f2 : vals 2 = _ := f2
    replace f3 : vals 3 = _ := f3
    replace f4 : vals 4 = _ := f4
    replace f5 : vals 5 = _ := f5
    replace f6 : vals 6 = _ := f6
    replace f7 : vals 7 = _ := f7
    replace f8 : vals 8 = _ := f8
    replace f9 : vals 9 = _ := f9
    replace f10 : vals 10 = _ := f10
    replace f11 : vals 11 = _ := f11
    replace f12 : vals 12 = _ := f12
    replace f13 : vals 13 = _ := f13
    replace f14 : vals 14 = _ := f14
    replace f15 : vals 15 = _ := f15
    replace f16 : vals 16 = _ := f16
    replace f17 : vals 17 = _ := f17
    replace f18 : vals 18 = _ := f18
    replace f19 : vals 19 = _ := f19
    replace f20 : vals 20 = _ := f20
    simp only [List.getD_cons_zero, List.getD_cons_succ, canonP, f0, f1, f2, f3, f4, f5, f6, f7, f8, f9, f10, f11, f12, f13, f14, f15, f16, f17, f18, f19, f20]
    clear f0 f1 f2 f3 f4 f5 f6 f7 f8 f9 f10 f11 f12 f13 f14 f15 f16 f17 f18 f19 f20
    have hrow : Row wq 44 256 (.slice (some ⟨gs, 0, none⟩) n cs) (l.map bc) := hNq (21, fun wx => Row wx 44 256 (.slice (some ⟨gs, 0, none⟩) n cs) (l.map bc)) (List.Mem.head _) rfl
    simp only [Act.put, List.setIfInBounds_toArray, List.set_cons_succ, List.set_cons_zero]
    rw [if_pos (by rfl)]
    refine gives_store_mid wq 44 gs (b * 256) (bc x).toArray rfl rfl rfl (by rw [List.size_toArray, HXb.out]; exact hrow.there HBL.out) HSz.out (all_oneCell_toArray (bc_one _)) ⟨?_, touch_setCells (by simp) _ _ _, ?_, ?_⟩
    · rw [List.map_set]; exact hrow.store HXb.out HBL.out
    · intro p hp; simp only [List.mem_cons, List.not_mem_nil, or_false] at hp; subst hp; intro hn; exact absurd rfl hn
    · intro k hk hne; simp only [List.mem_cons, List.not_mem_nil, or_false] at hk; exact absurd hk hne
  intro vals wz hRwz hfwz
  simp only [AllFacts] at hfwz
  have g0 := hfwz.1
  replace hfwz := hfwz.2
  have g1 := hfwz.1
  replace hfwz := hfwz.2
  have g2 := hfwz.1
  replace hfwz := hfwz.2
  have g3 := hfwz.1
  replace hfwz := hfwz.2
  have g4 := hfwz.1
  replace hfwz := hfwz.2
  have g5 := hfwz.1
  replace hfwz := hfwz.2
  have g6 := hfwz.1
  replace hfwz := hfwz.2
  have g7 := hfwz.1
  replace hfwz := hfwz.2
  have g8 := hfwz.1
  replace hfwz := hfwz.2
  have g9 := hfwz.1
  replace hfwz := hfwz.2
  have g10 := hfwz.1
  replace hfwz := hfwz.2
  have g11 := hfwz.1
  replace hfwz := hfwz.2
  have g12 := hfwz.1
  replace hfwz := hfwz.2
  have g13 := hfwz.1
  replace hfwz := hfwz.2
  have g14 := hfwz.1
  replace hfwz := hfwz.2
  have g15 := hfwz.1
  replace hfwz := hfwz.2
  have g16 := hfwz.1
  replace hfwz := hfwz.2
  have g17 := hfwz.1
  replace hfwz := hfwz.2
  have g18 := hfwz.1
  replace hfwz := hfwz.2
  have g19 := hfwz.1
  replace hfwz := hfwz.2
  have g20 := hfwz.1
  replace hfwz := hfwz.2
  have g21 := hfwz.1
  replace hfwz := hfwz.2
  clear hfwz
  replace g0 : vals 0 = _ := g0
  replace g1 : vals 1 = _ := g1
  replace g2 : vals 2 = _ := g2
  replace g3 : vals 3 = _ := g3
  replace g4 : vals 4 = _ := g4
  replace g5 : vals 5 = _ := g5
  replace g6 : vals 6 = _ := g6
  replace g7 : vals 7 = _ := g7
  replace g8 : vals 8 = _ := g8
  replace g9 : vals 9 = _ := g9
  replace g10 : vals 10 = _ := g10
  replace g11 : vals 11 = _ := g11
  replace g12 : vals 12 = _ := g12
  replace g13 : vals 13 = _ := g13
  replace g14 : vals 14 = _ := g14
  replace g15 : vals 15 = _ := g15
  replace g16 : vals 16 = _ := g16
  replace g17 : vals 17 = _ := g17
  replace g18 : vals 18 = _ := g18
  replace g19 : vals 19 = _ := g19
  replace g20 : vals 20 = _ := g20
  simp only [canonP, Act.put, List.setIfInBounds_toArray, List.set_cons_succ, List.set_cons_zero, g0, g1, g2, g3, g4, g5, g6, g7, g8, g9, g10, g11, g12, g13, g14, g15, g16, g17, g18, g19, g20]
  clear g0 g1 g2 g3 g4 g5 g6 g7 g8 g9 g10 g11 g12 g13 g14 g15 g16 g17 g18 g19 g20
  exact HK.out _ _ _ _ _ _ _ _ _ _ _ _ _ _ _ _ _ _ _ _ _ _ ((Touch.drew [gs] W1).trans hRwz (fun i hi => .inl hi)) g21
#print axioms flush_reg
end Go.Proofs.Ytieknecbheeekaa
