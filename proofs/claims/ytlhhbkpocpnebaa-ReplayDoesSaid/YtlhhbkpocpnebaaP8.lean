/- quernlaw19.short: a transaction is appended. -/
import Derived.Test.YtlhhbkpocpnebaaP7
set_option linter.unusedVariables false
set_option linter.unusedSimpArgs false
namespace Go.Proofs.Ytlhhbkpocpnebaa
open Go.RowKit Go.Maps

theorem infoTr3 : (Try.prog.info? 55).map (fun i => (i.zero, i.size, i.bytes)) = some (some (.agg #[.int .u32 0, .slice none 0 0, .slice none 0 0]), 3, 56) := by kernel_rfl
theorem buildSlice_trans (x : TV) (w : World) : (Instr.buildSlice 25 1 #[(0, .agg (tcell x).toArray)]).run Try.prog w = .ok (.slice (some ⟨w.heap.size, 0, none⟩) 1 1) (w.alloc (.cells (tcell x).toArray 55)) := by kernel_rfl
theorem CRow.one {w : World} {v : Value} {cs : List Cp} (h : CRow w v cs) : v.oneCell' = true := by obtain ⟨a, c, rfl⟩ := CRow.len h; rfl
theorem IRow.one {w : World} {v : Value} {cs : List Int} (h : IRow w v cs) : v.oneCell' = true := by obtain ⟨a, c, rfl⟩ := IRow.len h; rfl
theorem tcell_one {w : World} {x : TV} (h : TAt w x) : ∀ u ∈ tcell x, u.oneCell' = true := by
  intro u hu
  unfold tcell at hu
  simp only [List.mem_cons, List.not_mem_nil, or_false] at hu
  rcases hu with rfl | rfl | rfl
  · rfl
  · exact h.cs.one
  · exact h.rs.one
theorem TAt.touch {w w' : World} {x : TV} {S : List Nat} (h : TAt w x) (ht : Touch S w w') (hn : ∀ g, x.vc.ownBlock = some g ∨ x.vr.ownBlock = some g → g ∉ S) : TAt w' x :=
  ⟨Row.kept h.cs ht (fun g e => hn g (.inl e)), Row.kept h.rs ht (fun g e => hn g (.inr e)), h.ok⟩
/-- a transaction's rows are new -/
def Fresh (W : World) (x : TV) : Prop := ∀ g, x.vc.ownBlock = some g ∨ x.vr.ownBlock = some g → W.heap.size ≤ g
theorem Fresh.notin {W : World} {x : TV} (h : Fresh W x) {S : List Nat} (hS : ∀ k ∈ S, k < W.heap.size) : ∀ g, x.vc.ownBlock = some g ∨ x.vr.ownBlock = some g → g ∉ S := fun g hg hm => by have := h g hg; have := hS g hm; omega
def TNew (S : List Nat) (W : World) (pt : PT) : Value → World → Prop := fun v w => ∃ x : TV, x.t = pt ∧ v = .agg (tcell x).toArray ∧ TAt w x ∧ Fresh W x ∧ ∀ k ∈ S, k < W.heap.size
theorem TNew.mk {S : List Nat} {W wq w' : World} {pt : PT} {vc vr : Value} {s : Nat} {rows : List PR} {rs : List Int} (hpt : pt = ⟨s, rowsP rows, rs⟩) (h1 : CRow w' vc (rowsP rows)) (h2 : IRow w' vr rs) (hok : pt.ok) (hsz : W.heap.size ≤ wq.heap.size) (hvc : ∀ g, vc.ownBlock = some g → wq.heap.size ≤ g) (hvr : ∀ g, vr.ownBlock = some g → wq.heap.size ≤ g) (hS : ∀ k ∈ S, k < W.heap.size) : TNew S W pt (.agg #[.int .u32 (s : Int), vc, vr]) w' := by
  subst hpt
  exact ⟨⟨⟨s, rowsP rows, rs⟩, vc, vr⟩, rfl, rfl, ⟨h1, h2, hok⟩, fun g hg => by rcases hg with e | e; exact Nat.le_trans hsz (hvc g e); exact Nat.le_trans hsz (hvr g e), hS⟩
theorem tnew_stab (S : List Nat) (W : World) (pt : PT) : Stab (Touch S) (TNew S W pt) := fun v w w' ht ⟨x, h1, h2, h3, h4, h5⟩ => ⟨x, h1, h2, h3.touch ht (h4.notin h5), h4, h5⟩
def TOneA (S : List Nat) (W : World) (pt : PT) : Value → World → Prop := fun v w => ∃ x : TV, x.t = pt ∧ OneAtE 55 S W (tcell x) v w ∧ TAt w x ∧ Fresh W x ∧ ∀ k ∈ S, k < W.heap.size
theorem tone_stab (S : List Nat) (W : World) (pt : PT) : Stab (Touch S) (TOneA S W pt) := fun v w w' ht ⟨x, h1, h2, h3, h4, h5⟩ => ⟨x, h1, h2.touch ht (fun _ h => h), h3.touch ht (h4.notin h5), h4, h5⟩
def TAppA (W : World) (v3 : Value) (xs : List TV) (pt : PT) : Value → World → Prop := fun v w => ∃ x : TV, x.t = pt ∧ AppAtE 55 3 W v3 (xs.map tcell ++ [tcell x]) v w ∧ TAt w x ∧ Fresh W x
noncomputable def shortReg5 : Code := regById 5 (codesOf (Try.f11.body.getD .skip))
set_option maxRecDepth 100000 in
set_option maxHeartbeats 1000000 in
theorem short_reg5 (i n q0 n1 q1 n2 q2 : Nat) (y : Addr) (a1 a2 : Option Addr) (v3 : Value) (xs : List TV) (pt : PT) (S : List Nat) (rows : List PR) (rs : List Int) (W1 : World) (HKN : Hid (i < n)) (HKB : Hid (n ≤ 60)) (HYL : Hid ((y.add (i * 4)).block < W1.heap.size)) (HYS : Hid ((y.add (i * 4)).block ∉ S))
    (HA1 : Hid (W1.cell? { block := (y.add (i * 4)).block, off := (y.add (i * 4)).off + 1 } = some (.slice a1 n1 q1))) (HA2 : Hid (W1.cell? { block := (y.add (i * 4)).block, off := (y.add (i * 4)).off + 2 } = some (.slice a2 n2 q2))) (HC : Hid (∀ w, Touch S W1.drew w → Calls Try.prog 33 #[.int .u32 ((i : Int) + 1), .slice a1 n1 q1, .slice a2 n2 q2] w (TransPost (i + 1) rows rs w)))
    (HPT : Hid (pt = ⟨i + 1, rowsP rows, rs⟩)) (HOK : Hid pt.ok) (HRW : Hid (Row W1 55 3 v3 (xs.map tcell))) (HSL : Hid (∀ k ∈ S, k < W1.heap.size)) (HSI : Hid (∀ k, v3.ownBlock = some k → k ∈ S)) (HWS : Hid (xs.length + 1 ≤ 1000000))
    (c1 c2 c5 c6 c7 c8 c9 c10 c11 c12 c13 c14 c15 c16 c17 c18 c19 c20 c21 c22 c23 c24 c25 c26 c27 c28 : Value) (Q : Exit → Act → World → Prop) (HK : Hid (∀ u3 u11 u12 u13 u14 u15 u16 u17 u18 u19 u20 u21 u22 u23 u24 u25 u26 u27 wz, Touch S W1 wz → TAppA W1 v3 xs pt u3 wz → Q .normal ⟨(.slice (some y) n q0 :: c1 :: c2 :: u3 :: .int .i64 (i : Int) :: c5 :: c6 :: c7 :: c8 :: c9 :: c10 :: u11 :: u12 :: u13 :: u14 :: u15 :: u16 :: u17 :: u18 :: u19 :: u20 :: u21 :: u22 :: u23 :: u24 :: u25 :: u26 :: u27 :: c28 :: []).toArray, []⟩ wz)) : shortReg5.wp Try.prog Q ⟨(.slice (some y) n q0 :: c1 :: c2 :: v3 :: .int .i64 (i : Int) :: c5 :: c6 :: c7 :: c8 :: c9 :: c10 :: c11 :: c12 :: c13 :: c14 :: c15 :: c16 :: c17 :: c18 :: c19 :: c20 :: c21 :: c22 :: c23 :: c24 :: c25 :: c26 :: c27 :: c28 :: []).toArray, []⟩ W1 := by
  obtain ⟨i0, hi, hz0, hz1, hz2⟩ := info_parts infoTr3
  have HI := Lib.hid hi
  clear hi
  have hk0 : (0 : Int) ≤ (i : Int) := by omega
  have hk1 : (i : Int) < (n : Int) := by have := HKN.out; omega
  have hib : i < 60 := by have := HKN.out; have := HKB.out; omega
  have hw1 : IntKind.i64.wrap ((i : Int) + 1) = (i : Int) + 1 := by rw [IntKind.wrap_i64]; omega
  have hw2 : IntKind.u32.wrap ((i : Int) + 1) = (i : Int) + 1 := by rw [IntKind.wrap_u32]; omega
  have HN0 := Lib.hid (show ∀ p ∈ ([(16, fun wx => Row wx 55 3 v3 (xs.map tcell))] : List (Nat × (World → Prop))), p.2 W1.drew by
    intro p hp
    simp only [List.mem_cons, List.not_mem_nil, or_false] at hp
    subst hp
    exact HRW.out.kept (Touch.drew [] W1) (by simp))
  conv => arg 2; whnf
  refine wp_region_factsN [16, 17] [(16, fun wx => Row wx 55 3 v3 (xs.map tcell))] (by kernel_rfl) [[], [], [(1, some 12)], [(2, some 13)], [], [], [(4, some 15), (5, some 16)], [(6, some 17)], [(7, some 18)], [], [], [(9, some 20), (10, some 21)], [(11, some 22)], [(12, some 23)], [(3, some 14), (8, some 19), (13, some 24)], [(14, some 25)], [(0, some 11), (14, some 25), (15, some 26)], [(0, some 11), (1, some 12), (2, some 13), (3, some 14), (4, some 15), (5, some 16), (6, some 17), (7, some 18), (8, some 19), (9, some 20), (10, some 21), (11, some 22), (12, some 23), (13, some 24), (14, some 25), (15, some 26), (16, some 27)]] [(0, some 11), (1, some 12), (2, some 13), (3, some 14), (4, some 15), (5, some 16), (6, some 17), (7, some 18), (8, some 19), (9, some 20), (10, some 21), (11, some 22), (12, some 23), (13, some 24), (14, some 25), (15, some 26), (16, some 27), (17, some 3)] (by kernel_rfl) (by kernel_rfl) (by kernel_rfl) (Touch S) (Touch.refl S) (fun _ _ _ h h' => h.trans h' (fun i hi => .inl hi)) [Is (v3), Is (Value.int .i64 (i : Int)), Is (Value.int .i64 ((i : Int) + 1)), Is (Value.int .u32 ((i : Int) + 1)), Is (Value.slice (some y) n q0), Is (Value.int .i64 (i : Int)), Is (Value.pointer (some (y.add (i * 4)))), Is (Value.pointer (some { block := (y.add (i * 4)).block, off := (y.add (i * 4)).off + 1 })), Is (Value.slice a1 n1 q1), Is (Value.slice (some y) n q0), Is (Value.int .i64 (i : Int)), Is (Value.pointer (some (y.add (i * 4)))), Is (Value.pointer (some { block := (y.add (i * 4)).block, off := (y.add (i * 4)).off + 2 })), Is (Value.slice a2 n2 q2), TNew S W1 pt, TOneA S W1 pt, TAppA W1 v3 xs pt, TAppA W1 v3 xs pt] rfl ⟨.inr (is_stab _ _), .inr (is_stab _ _), .inr (is_stab _ _), .inr (is_stab _ _), .inr (is_stab _ _), .inr (is_stab _ _), .inr (is_stab _ _), .inr (is_stab _ _), .inr (is_stab _ _), .inr (is_stab _ _), .inr (is_stab _ _), .inr (is_stab _ _), .inr (is_stab _ _), .inr (is_stab _ _), .inr (tnew_stab _ _ _), .inr (tone_stab _ _ _), .inl (by simp), .inl (by simp), trivial⟩ HN0.out ⟨?o0, ?o1, ?o2, ?o3, ?o4, ?o5, ?o6, ?o7, ?o8, ?o9, ?o10, ?o11, ?o12, ?o13, ?o14, ?o15, ?o16, ?o17, trivial⟩ ?_
  case o0 =>
    intro vals wq hRq hNq hpq
    simp only [List.getD_cons_zero, List.getD_cons_succ, canonP]
    simp only [Oper.gives]
    go_simp
    first | exact ⟨is_mk _ _, (Touch.refl S) _⟩ | exact ⟨is_mk _ _, (Touch.refl S) _, (fun _ _ _ _ h => h), (fun _ _ _ _ _ h => h)⟩
  case o1 =>
    intro vals wq hRq hNq hpq
    simp only [List.getD_cons_zero, List.getD_cons_succ, canonP]
    simp only [Oper.gives]
    go_simp
    first | exact ⟨is_mk _ _, (Touch.refl S) _⟩ | exact ⟨is_mk _ _, (Touch.refl S) _, (fun _ _ _ _ h => h), (fun _ _ _ _ _ h => h)⟩
  case o2 =>
    intro vals wq hRq hNq hpq
    simp only [factsP, List.getD_cons_zero, List.getD_cons_succ] at hpq
    have f1 := hpq.1
    replace hpq := hpq.2
    clear hpq
    replace f1 : vals 1 = _ := f1
    simp only [List.getD_cons_zero, List.getD_cons_succ, canonP, f1]
    clear f1
    simp only [Oper.gives]
    go_simp
    first | exact ⟨is_mk _ _, (Touch.refl S) _⟩ | exact ⟨is_mk _ _, (Touch.refl S) _, (fun _ _ _ _ h => h), (fun _ _ _ _ _ h => h)⟩
  case o3 =>
    intro vals wq hRq hNq hpq
    simp only [factsP, List.getD_cons_zero, List.getD_cons_succ] at hpq
    have f2 := hpq.1
    replace hpq := hpq.2
    clear hpq
    replace f2 : vals 2 = _ := f2
    simp only [List.getD_cons_zero, List.getD_cons_succ, canonP, f2]
    clear f2
    simp only [Oper.gives]
    go_simp
    first | exact ⟨is_mk _ _, (Touch.refl S) _⟩ | exact ⟨is_mk _ _, (Touch.refl S) _, (fun _ _ _ _ h => h), (fun _ _ _ _ _ h => h)⟩
  case o4 =>
    intro vals wq hRq hNq hpq
    simp only [List.getD_cons_zero, List.getD_cons_succ, canonP]
    simp only [Oper.gives]
    go_simp
    first | exact ⟨is_mk _ _, (Touch.refl S) _⟩ | exact ⟨is_mk _ _, (Touch.refl S) _, (fun _ _ _ _ h => h), (fun _ _ _ _ _ h => h)⟩
  case o5 =>
    intro vals wq hRq hNq hpq
    simp only [List.getD_cons_zero, List.getD_cons_succ, canonP]
    simp only [Oper.gives]
    go_simp
    first | exact ⟨is_mk _ _, (Touch.refl S) _⟩ | exact ⟨is_mk _ _, (Touch.refl S) _, (fun _ _ _ _ h => h), (fun _ _ _ _ _ h => h)⟩
  case o6 =>
    intro vals wq hRq hNq hpq
    simp only [factsP, List.getD_cons_zero, List.getD_cons_succ] at hpq
    have f4 := hpq.1
    replace hpq := hpq.2
    have f5 := hpq.1
    replace hpq := hpq.2
    clear hpq
    replace f4 : vals 4 = _ := f4
    replace f5 : vals 5 = _ := f5
    simp only [List.getD_cons_zero, List.getD_cons_succ, canonP, f4, f5]
    clear f4 f5
    simp only [Oper.gives]
    go_simp
    first | exact ⟨is_mk _ _, (Touch.refl S) _⟩ | exact ⟨is_mk _ _, (Touch.refl S) _, (fun _ _ _ _ h => h), (fun _ _ _ _ _ h => h)⟩
  case o7 =>
    intro vals wq hRq hNq hpq
    simp only [factsP, List.getD_cons_zero, List.getD_cons_succ] at hpq
    have f6 := hpq.1
    replace hpq := hpq.2
    clear hpq
    replace f6 : vals 6 = _ := f6
    simp only [List.getD_cons_zero, List.getD_cons_succ, canonP, f6]
    clear f6
    simp only [Oper.gives]
    go_simp
    first | exact ⟨is_mk _ _, (Touch.refl S) _⟩ | exact ⟨is_mk _ _, (Touch.refl S) _, (fun _ _ _ _ h => h), (fun _ _ _ _ _ h => h)⟩
  case o8 =>
    intro vals wq hRq hNq hpq
    simp only [factsP, List.getD_cons_zero, List.getD_cons_succ] at hpq
    have f7 := hpq.1
    replace hpq := hpq.2
    clear hpq
    replace f7 : vals 7 = _ := f7
    simp only [List.getD_cons_zero, List.getD_cons_succ, canonP, f7]
    clear f7
    have hc1 : wq.cell? { block := (y.add (i * 4)).block, off := (y.add (i * 4)).off + 1 } = some (.slice a1 n1 q1) := (hRq.cell (a := { block := (y.add (i * 4)).block, off := (y.add (i * 4)).off + 1 }) HYL.out HYS.out).trans HA1.out
    simp only [Oper.gives]
    go_simp
    first | exact ⟨is_mk _ _, Touch.refl _ _⟩ | exact ⟨is_mk _ _, Touch.refl _ _, (fun _ _ _ _ h => h), (fun _ _ _ _ _ h => h)⟩
  case o9 =>
    intro vals wq hRq hNq hpq
    simp only [List.getD_cons_zero, List.getD_cons_succ, canonP]
    simp only [Oper.gives]
    go_simp
    first | exact ⟨is_mk _ _, (Touch.refl S) _⟩ | exact ⟨is_mk _ _, (Touch.refl S) _, (fun _ _ _ _ h => h), (fun _ _ _ _ _ h => h)⟩
  case o10 =>
    intro vals wq hRq hNq hpq
    simp only [List.getD_cons_zero, List.getD_cons_succ, canonP]
    simp only [Oper.gives]
    go_simp
    first | exact ⟨is_mk _ _, (Touch.refl S) _⟩ | exact ⟨is_mk _ _, (Touch.refl S) _, (fun _ _ _ _ h => h), (fun _ _ _ _ _ h => h)⟩
  case o11 =>
    intro vals wq hRq hNq hpq
    simp only [factsP, List.getD_cons_zero, List.getD_cons_succ] at hpq
    have f9 := hpq.1
    replace hpq := hpq.2
    have f10 := hpq.1
    replace hpq := hpq.2
    clear hpq
    replace f9 : vals 9 = _ := f9
    replace f10 : vals 10 = _ := f10
    simp only [List.getD_cons_zero, List.getD_cons_succ, canonP, f9, f10]
    clear f9 f10
    simp only [Oper.gives]
    go_simp
    first | exact ⟨is_mk _ _, (Touch.refl S) _⟩ | exact ⟨is_mk _ _, (Touch.refl S) _, (fun _ _ _ _ h => h), (fun _ _ _ _ _ h => h)⟩
  case o12 =>
    intro vals wq hRq hNq hpq
    simp only [factsP, List.getD_cons_zero, List.getD_cons_succ] at hpq
    have f11 := hpq.1
    replace hpq := hpq.2
    clear hpq
    replace f11 : vals 11 = _ := f11
    simp only [List.getD_cons_zero, List.getD_cons_succ, canonP, f11]
    clear f11
    simp only [Oper.gives]
    go_simp
    first | exact ⟨is_mk _ _, (Touch.refl S) _⟩ | exact ⟨is_mk _ _, (Touch.refl S) _, (fun _ _ _ _ h => h), (fun _ _ _ _ _ h => h)⟩
  case o13 =>
    intro vals wq hRq hNq hpq
    simp only [factsP, List.getD_cons_zero, List.getD_cons_succ] at hpq
    have f12 := hpq.1
    replace hpq := hpq.2
    clear hpq
    replace f12 : vals 12 = _ := f12
    simp only [List.getD_cons_zero, List.getD_cons_succ, canonP, f12]
    clear f12
    have hc2 : wq.cell? { block := (y.add (i * 4)).block, off := (y.add (i * 4)).off + 2 } = some (.slice a2 n2 q2) := (hRq.cell (a := { block := (y.add (i * 4)).block, off := (y.add (i * 4)).off + 2 }) HYL.out HYS.out).trans HA2.out
    simp only [Oper.gives]
    go_simp
    first | exact ⟨is_mk _ _, Touch.refl _ _⟩ | exact ⟨is_mk _ _, Touch.refl _ _, (fun _ _ _ _ h => h), (fun _ _ _ _ _ h => h)⟩
  case o14 =>
    intro vals wq hRq hNq hpq
    simp only [factsP, List.getD_cons_zero, List.getD_cons_succ] at hpq
    have f3 := hpq.1
    replace hpq := hpq.2
    have f8 := hpq.1
    replace hpq := hpq.2
    have f13 := hpq.1
    replace hpq := hpq.2
    clear hpq
    replace f3 : vals 3 = _ := f3
    replace f8 : vals 8 = _ := f8
    replace f13 : vals 13 = _ := f13
    simp only [List.getD_cons_zero, List.getD_cons_succ, canonP, f3, f8, f13]
    clear f3 f8 f13
    simp only [Oper.gives]
    go_simp
    refine (HC.out wq hRq).mono fun e w' h => ?_
    obtain ⟨vc, vr, he, h1, h2, hg, hvc, hvr⟩ := h
    refine ⟨_, he, TNew.mk HPT.out h1 h2 HOK.out hRq.size hvc hvr HSL.out, Touch.of_below hg, ?_⟩
    first | exact ⟨fun h2 => Row.kept h2 (Touch.of_below (S := []) hg) (by simp), fun u hu => hu⟩ | exact fun h2 => Row.kept h2 (Touch.of_below (S := []) hg) (by simp)
  case o15 =>
    intro vals wq hRq hNq hpq
    simp only [factsP, List.getD_cons_zero, List.getD_cons_succ] at hpq
    have f14 := hpq.1
    replace hpq := hpq.2
    clear hpq
    simp only [List.getD_cons_zero, List.getD_cons_succ, canonP]
    have hsz : W1.heap.size ≤ wq.heap.size := hRq.size
    rw [if_pos (by rfl)]
    obtain ⟨x, hx, hv, hat, hf⟩ := f14
    refine gives_buildSlice 25 1 _ rfl (v := .slice (some ⟨wq.heap.size, 0, none⟩) 1 1) (w' := wq.alloc (.cells (tcell x).toArray 55)) (by simp only [List.map_toArray, List.map_cons, List.map_nil, canonP, Act.put, List.setIfInBounds_toArray, List.set_cons_succ, List.set_cons_zero]; show (Instr.buildSlice 25 1 #[(0, vals 14)]).run _ _ = _; rw [hv]; exact buildSlice_trans x wq) ⟨⟨x, hx, ⟨rfl, heap_alloc_last _ _, (fun hm => by have := HSL.out _ hm; simp only [Value.ownBlock, Option.getD_some] at this; omega), hsz⟩, hat.grow (Grow.alloc _ _), hf⟩, Touch.alloc _ _ _, ?_, ?_⟩
    · intro q hq _ _ h; simp only [List.mem_cons, List.not_mem_nil, or_false] at hq; subst hq; exact Row.kept h (Touch.alloc [] wq _) (by simp)
    · intro k hk hne hnp; exact absurd hk (by intro hk; simp at hk; rcases hk with rfl | rfl <;> exact hnp (by simp))
  case o16 =>
    intro vals wq hRq hNq hpq
    simp only [factsP, List.getD_cons_zero, List.getD_cons_succ] at hpq
    have f0 := hpq.1
    replace hpq := hpq.2
    have f14 := hpq.1
    replace hpq := hpq.2
    have f15 := hpq.1
    replace hpq := hpq.2
    clear hpq
    replace f0 : vals 0 = _ := f0
    simp only [List.getD_cons_zero, List.getD_cons_succ, canonP, f0]
    clear f0
    have hrow : Row wq 55 3 v3 (xs.map tcell) := hNq (16, fun wx => Row wx 55 3 v3 (xs.map tcell)) (List.Mem.head _) rfl
    have hsz : W1.heap.size ≤ wq.heap.size := hRq.size
    rw [if_pos (by rfl)]
    obtain ⟨x, hx, ho, hat, hf, _⟩ := f15
    refine gives_append _ _ 25 rfl 55 i0 (.agg #[.int .u32 0, .slice none 0 0, .slice none 0 0]) 3 56 Try.underlying25 HI.out hz0 hz1 hz2 rfl (by omega) v3 (xs.map tcell) rfl hrow _ 1 (tcell x) ho.1 rfl (cells_add ho.2.1) (tcell_one hat) (by rw [List.length_map]; exact HWS.out) (by omega) ?_
    intro v' w' hrow' hg hown hne
    refine ⟨⟨x, hx, ⟨hrow', ?_⟩, hat.touch (Touch.grown hg (fun k e => HSI.out k e)) (fun g hg => hf.notin HSL.out g hg), hf⟩, Touch.grown hg HSI.out, ?_, ?_⟩
    · rcases hown with h | h; exact .inl h; exact .inr ⟨_, h, hsz⟩
    · intro q hq; simp only [List.mem_cons, List.not_mem_nil, or_false] at hq; subst hq; intro hn; exact absurd rfl hn
    · intro k hk hne hnp u hu; simp only [List.mem_cons, List.not_mem_nil, or_false] at hk; rcases hk with rfl | rfl; exact absurd rfl hne; exact absurd (by simp) hnp
  case o17 =>
    intro vals wq hRq hNq hpq
    simp only [factsP, List.getD_cons_zero, List.getD_cons_succ] at hpq
    have f0 := hpq.1
    replace hpq := hpq.2
    have f1 := hpq.1
    replace hpq := hpq.2
    have f2 := hpq.1
    replace hpq := hpq.2
    have f3 := hpq.1
    replace hpq := hpq.2
    have f4 := hpq.1
    replace hpq := hpq.2
    have f5 := hpq.1
    replace hpq := hpq.2
    have f6 := hpq.1
    replace hpq := hpq.2
    have f7 := hpq.1
    replace hpq := hpq.2
    have f8 := hpq.1
    replace hpq := hpq.2
    have f9 := hpq.1
    replace hpq := hpq.2
    have f10 := hpq.1
    replace hpq := hpq.2
    have f11 := hpq.1
    replace hpq := hpq.2
    have f12 := hpq.1
    replace hpq := hpq.2
    have f13 := hpq.1
    replace hpq := hpq.2
    have f14 := hpq.1
    replace hpq := hpq.2
    have f15 := hpq.1
    replace hpq := hpq.2
    have f16 := hpq.1
    replace hpq := hpq.2
    clear hpq
    replace f0 : vals 0 = _ := f0
    replace f1 : vals 1 = _ := f1
    replace f2 : vals 2 = _ := f2
    replace f3 : vals 3 = _ := f3
    replace f4 : vals 4 = _ := f4
    replace f5 : vals 5 = _ := f5
    replace f6 : vals 6 = _ := f6
    replace f7 : vals 7 = _ := f7
    replace f8 : vals 8 = _ := f8
    replace f9 : vals 9 = _ := f9
    replace f10 : vals 10 = _ := f10
    replace f11 : vals 11 = _ := f11
    replace f12 : vals 12 = _ := f12
    replace f13 : vals 13 = _ := f13
    simp only [List.getD_cons_zero, List.getD_cons_succ, canonP, f0, f1, f2, f3, f4, f5, f6, f7, f8, f9, f10, f11, f12, f13]
    clear f0 f1 f2 f3 f4 f5 f6 f7 f8 f9 f10 f11 f12 f13
    rw [if_pos (by rfl)]
    exact gives_run (v := vals 16) (w' := wq) (by simp only [execOp, canonP, Act.put, List.setIfInBounds_toArray, List.set_cons_succ, List.set_cons_zero]; rfl) ⟨f16, Touch.refl _ _, (fun _ _ _ _ h => h), (fun _ _ _ _ _ h => h)⟩
  intro vals wz hRwz hfwz
  simp only [AllFacts] at hfwz
  have g0 := hfwz.1
  replace hfwz := hfwz.2
  have g1 := hfwz.1
  replace hfwz := hfwz.2
  have g2 := hfwz.1
  replace hfwz := hfwz.2
  have g3 := hfwz.1
  replace hfwz := hfwz.2
  have g4 := hfwz.1
  replace hfwz := hfwz.2
  have g5 := hfwz.1
  replace hfwz := hfwz.2
  have g6 := hfwz.1
  replace hfwz := hfwz.2
  have g7 := hfwz.1
  replace hfwz := hfwz.2
  have g8 := hfwz.1
  replace hfwz := hfwz.2
  have g9 := hfwz.1
  replace hfwz := hfwz.2
  have g10 := hfwz.1
  replace hfwz := hfwz.2
  have g11 := hfwz.1
  replace hfwz := hfwz.2
  have g12 := hfwz.1
  replace hfwz := hfwz.2
  have g13 := hfwz.1
  replace hfwz := hfwz.2
  have g14 := hfwz.1
  replace hfwz := hfwz.2
  have g15 := hfwz.1
  replace hfwz := hfwz.2
  have g16 := hfwz.1
  replace hfwz := hfwz.2
  have g17 := hfwz.1
  replace hfwz := hfwz.2
  clear hfwz
  replace g0 : vals 0 = _ := g0
  replace g1 : vals 1 = _ := g1
  replace g2 : vals 2 = _ := g2
  replace g3 : vals 3 = _ := g3
  replace g4 : vals 4 = _ := g4
  replace g5 : vals 5 = _ := g5
  replace g6 : vals 6 = _ := g6
  replace g7 : vals 7 = _ := g7
  replace g8 : vals 8 = _ := g8
  replace g9 : vals 9 = _ := g9
  replace g10 : vals 10 = _ := g10
  replace g11 : vals 11 = _ := g11
  replace g12 : vals 12 = _ := g12
  replace g13 : vals 13 = _ := g13
  simp only [canonP, Act.put, List.setIfInBounds_toArray, List.set_cons_succ, List.set_cons_zero, g0, g1, g2, g3, g4, g5, g6, g7, g8, g9, g10, g11, g12, g13]
  clear g0 g1 g2 g3 g4 g5 g6 g7 g8 g9 g10 g11 g12 g13 g14 g15
  exact HK.out _ _ _ _ _ _ _ _ _ _ _ _ _ _ _ _ _ _  _ ((Touch.drew S W1).trans hRwz (fun i hi => .inl hi)) g17
#print axioms short_reg5
end Go.Proofs.Ytlhhbkpocpnebaa
