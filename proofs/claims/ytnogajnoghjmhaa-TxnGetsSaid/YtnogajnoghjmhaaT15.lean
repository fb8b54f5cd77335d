/- The laws' calls. -/
import Derived.Test.YtnogajnoghjmhaaT14
set_option linter.unusedVariables false
set_option linter.unusedSimpArgs false
namespace Go.Proofs.Ytnogajnoghjmhaa
open Go.RowKit Go.Maps

/-- an act -/
structure AP where
  k : Nat
  at_ : Int
  more : Int
  fill : Nat
structure AP.ok (x : AP) : Prop where
  k : x.k < 256
  a : IntOk x.at_
  m : IntOk x.more
  f : x.fill < 4294967296
def AP.cells (x : AP) : List Value := [.int .u8 (x.k : Int), .int .i64 x.at_, .int .i64 x.more, .int .u32 (x.fill : Int)]
def doT (t : TS) (x : AP) : Int × TS :=
  if x.k % 10 = 0 then beginT t x.at_ x.more
  else if x.k % 10 = 1 then endT t
  else if x.k % 10 = 2 then undoT t
  else if x.k % 10 = 3 then orderT t x.at_
  else if x.k % 10 = 4 then forgetT t x.at_ true
  else if x.k % 10 = 5 then forgetT t x.at_ false
  else putT t x.at_ (fillB x.fill)
theorem DPost.from {B N seq : Nat} {ids : List Nat} {r : Int × TS} {w W : World} {e : Ending} {w' : World} (ht : Touch [] w W) (h : DPost B N seq ids r W e w') : DPost B N seq ids r w e w' := by
  obtain ⟨he, ids', h1, h2, h3⟩ := h
  exact ⟨he, ids', h1, ((Touch.refl ids w).trans ht (by simp)).trans h2 (fun i hi => .inl hi), fun i hi => (h3 i hi).imp id (fun h => Nat.le_trans ht.size h)⟩
noncomputable def do_reg13Code : Code := regById 13 (codesOf (Try.f25.body.getD .skip))
set_option maxRecDepth 100000 in
set_option maxHeartbeats 4000000 in
theorem do_reg13 (B X N seq n : Nat) (ids : List Nat) (t : TS) (b : Int) (W1 : World) (HC1 : Hid (X < W1.heap.size ∧ W1.cell? ⟨X, 1, none⟩ = some (.int .i64 b))) (HC3 : Hid (X < W1.heap.size ∧ W1.cell? ⟨X, 3, none⟩ = some (.int .u32 (n : Int)))) (HT : Hid (TIs W1 B N seq ids t)) (hN : N ≤ 100000) (hs : seq < 4294967296) (hb : IntOk b) (hn : n < 4294967296)
    (s1 s2 s4 s5 s6 s7 s8 s9 s10 s11 s12 s13 s14 s15 s16 s17 s18 s19 s20 s21 s22 s23 s24 s25 s26 s27 s28 s29 s30 s31 s32 s33 s34 s35 s36 s37 s38 s39 s40 s41 s42 s43 s44 s45 s46 s47 : Value) (Q : Exit → Act → World → Prop) (HK : Hid (∀ u41 u42 u43 u44 u45 u46 u47 wz, DPost B N seq ids (putT t b (fillB n)) W1 (.returned (.int .i64 (putT t b (fillB n)).1)) wz → Q .normal ⟨(.pointer (some ⟨B, 0, none⟩) :: s1 :: s2 :: .pointer (some ⟨X, 0, none⟩) :: .int .i64 (putT t b (fillB n)).1 :: s5 :: s6 :: s7 :: s8 :: s9 :: s10 :: s11 :: s12 :: s13 :: s14 :: s15 :: s16 :: s17 :: s18 :: s19 :: s20 :: s21 :: s22 :: s23 :: s24 :: s25 :: s26 :: s27 :: s28 :: s29 :: s30 :: s31 :: s32 :: s33 :: s34 :: s35 :: s36 :: s37 :: s38 :: s39 :: s40 :: u41 :: u42 :: u43 :: u44 :: u45 :: u46 :: u47 :: []).toArray, []⟩ (wz))) : do_reg13Code.wp Try.prog Q ⟨(.pointer (some ⟨B, 0, none⟩) :: s1 :: s2 :: .pointer (some ⟨X, 0, none⟩) :: s4 :: s5 :: s6 :: s7 :: s8 :: s9 :: s10 :: s11 :: s12 :: s13 :: s14 :: s15 :: s16 :: s17 :: s18 :: s19 :: s20 :: s21 :: s22 :: s23 :: s24 :: s25 :: s26 :: s27 :: s28 :: s29 :: s30 :: s31 :: s32 :: s33 :: s34 :: s35 :: s36 :: s37 :: s38 :: s39 :: s40 :: s41 :: s42 :: s43 :: s44 :: s45 :: s46 :: s47 :: []).toArray, []⟩ W1 := by
  conv => arg 2; whnf
  refine wp_region_facts_tail 6 (by kernel_rfl) (by kernel_rfl) [[], [], [(1, some 42)], [], [(3, some 44)], [(4, some 45)]] [(0, some 41), (1, some 42), (2, some 43), (3, some 44), (4, some 45), (5, some 46)] (by kernel_rfl) (by kernel_rfl) (by kernel_rfl) (Touch []) (Touch.refl []) (fun _ _ _ h h' => h.trans h' (fun i hi => .inl hi)) [Is (Value.pointer (some ⟨B, 0, none⟩)), Is (Value.pointer (some ⟨X, 1, none⟩)), Is (Value.int .i64 b), Is (Value.pointer (some ⟨X, 3, none⟩)), Is (Value.int .u32 (n : Int)), Is (Value.agg (bc (fillB n)).toArray)] rfl ⟨is_stab _ _, is_stab _ _, is_stab _ _, is_stab _ _, is_stab _ _, is_stab _ _, trivial⟩ ⟨?o0, ?o1, ?o2, ?o3, ?o4, ?o5, trivial⟩ ?_
  case o0 =>
    intro vals wq hRq hpq
    simp only [List.getD_cons_zero, List.getD_cons_succ, canonP]
    simp only [Oper.gives]
    go_simp
    exact ⟨is_mk _ _, (Touch.refl []) _⟩
  case o1 =>
    intro vals wq hRq hpq
    simp only [List.getD_cons_zero, List.getD_cons_succ, canonP]
    simp only [Oper.gives]
    go_simp
    exact ⟨is_mk _ _, (Touch.refl []) _⟩
  case o2 =>
    intro vals wq hRq hpq
    simp only [factsP, List.getD_cons_zero, List.getD_cons_succ] at hpq
    have f1 := hpq.1
    replace hpq := hpq.2
    clear hpq
    replace f1 : vals 1 = _ := f1
    simp only [List.getD_cons_zero, List.getD_cons_succ, canonP, f1]
    clear f1
    have hcc : wq.cell? ⟨X, 1, none⟩ = some (.int .i64 b) := (Touch.cell ((Touch.drew [] W1).trans hRq (by simp)) (a := ⟨X, 1, none⟩) HC1.out.1 (by simp)).trans HC1.out.2
    simp only [Oper.gives]
    go_simp
    exact ⟨is_mk _ _, Touch.refl _ _⟩
  case o3 =>
    intro vals wq hRq hpq
    simp only [List.getD_cons_zero, List.getD_cons_succ, canonP]
    simp only [Oper.gives]
    go_simp
    exact ⟨is_mk _ _, (Touch.refl []) _⟩
  case o4 =>
    intro vals wq hRq hpq
    simp only [factsP, List.getD_cons_zero, List.getD_cons_succ] at hpq
    have f3 := hpq.1
    replace hpq := hpq.2
    clear hpq
    replace f3 : vals 3 = _ := f3
    simp only [List.getD_cons_zero, List.getD_cons_succ, canonP, f3]
    clear f3
    have hcc : wq.cell? ⟨X, 3, none⟩ = some (.int .u32 (n : Int)) := (Touch.cell ((Touch.drew [] W1).trans hRq (by simp)) (a := ⟨X, 3, none⟩) HC3.out.1 (by simp)).trans HC3.out.2
    simp only [Oper.gives]
    go_simp
    exact ⟨is_mk _ _, Touch.refl _ _⟩
  case o5 =>
    intro vals wq hRq hpq
    simp only [factsP, List.getD_cons_zero, List.getD_cons_succ] at hpq
    have f4 := hpq.1
    replace hpq := hpq.2
    clear hpq
    replace f4 : vals 4 = _ := f4
    simp only [List.getD_cons_zero, List.getD_cons_succ, canonP, f4]
    clear f4
    simp only [Oper.gives]
    go_simp
    exact (fill_any n hn wq).mono fun e w' ⟨he, hg⟩ => ⟨_, he, is_mk _ _, Touch.of_below hg⟩
  intro vals wz hRwz hfwz
  simp only [AllFacts] at hfwz
  have g0 := hfwz.1
  replace hfwz := hfwz.2
  have g1 := hfwz.1
  replace hfwz := hfwz.2
  have g2 := hfwz.1
  replace hfwz := hfwz.2
  have g3 := hfwz.1
  replace hfwz := hfwz.2
  have g4 := hfwz.1
  replace hfwz := hfwz.2
  have g5 := hfwz.1
  replace hfwz := hfwz.2
  clear hfwz
  replace g0 : vals 0 = _ := g0
  replace g1 : vals 1 = _ := g1
  replace g2 : vals 2 = _ := g2
  replace g3 : vals 3 = _ := g3
  replace g4 : vals 4 = _ := g4
  replace g5 : vals 5 = _ := g5
  simp only [List.drop_succ_cons, List.drop_zero]
  simp only [canonP, Act.put, List.setIfInBounds_toArray, List.set_cons_succ, List.set_cons_zero, g0, g1, g2, g3, g4, g5]
  clear g0 g1 g2 g3 g4 g5
  have hq := (Touch.drew [] W1).trans hRwz (by simp)
  have HT2 := Lib.hid (HT.out.kept hq (by simp))
  have HF := Lib.hid (fillB_length n)
  generalize fillB n = y at *
  go_wp2_with fail
  refine (put_any HT2.out hN hs hb HF.out).mono ?_
  rintro e w2 ⟨rfl, ids', h1, h2, h3⟩
  have H1 := Lib.hid h1
  have H2 := Lib.hid h2
  have H3 := Lib.hid h3
  have HQ := Lib.hid hq
  clear h1 h2 h3 hq
  go_wp2_with fail
  exact HK.out _ _ _ _ _ _ _ _ ⟨rfl, ids', H1.out, ((Touch.refl ids W1).trans HQ.out (by simp)).trans H2.out (fun i hi => .inl hi), fun i hi => (H3.out i hi).imp id (fun h => Nat.le_trans HQ.out.size h)⟩
#print axioms do_reg13
set_option maxRecDepth 100000 in
set_option maxHeartbeats 2000000 in
theorem do_way0 {w : World} {B N seq : Nat} {ids : List Nat} {t : TS} (h : TIs w B N seq ids t) (hN : N ≤ 100000) (hs : seq < 4294967296) {x : AP} (hx : x.ok) (hk : x.k % 10 = 0) : Calls Try.prog 25 #[.pointer (some ⟨B, 0, none⟩), .agg x.cells.toArray] w (DPost B N seq ids (beginT t x.at_ x.more) w) := by
  have hkl := hx.k
  have e0 : ((x.k : Int) % 10 == 0) = true := by simp; omega
  have h0 := h.kept (Touch.alloc [] w (.cells x.cells.toArray 56)) (by simp)
  have HT := Lib.hid h0
  have HX := Lib.hid hx
  have hAl := Touch.alloc [] w (.cells x.cells.toArray 56)
  have HA := Lib.hid hAl
  have hob := heap_alloc_last w (.cells x.cells.toArray 56)
  have HB := Lib.hid (show w.heap.size < (w.alloc (.cells x.cells.toArray 56)).heap.size by simp)
  have c0 := cell_at hob 0
  have c1 := cell_at hob 1
  have c2 := cell_at hob 2
  have c3 := cell_at hob 3
  clear h h0 hAl hob
  unfold AP.cells at *
  simp only [List.getElem?_toArray, List.getElem?_cons_zero, List.getElem?_cons_succ] at c0 c1 c2 c3
  go_enter Try.func25, Try.ntmps25
  go_upto_region 1 with (fail)
  generalize (w.alloc (.cells [Value.int .u8 (x.k : Int), .int .i64 x.at_, .int .i64 x.more, .int .u32 (x.fill : Int)].toArray 56)) = W0 at *
  go_wp2_with fail
  refine (begin_any HT.out hN hs HX.out.m).mono ?_
  rintro e w2 ⟨rfl, ids', h1, h2, h3⟩
  have H1 := Lib.hid h1
  have H2 := Lib.hid h2
  have H3 := Lib.hid h3
  clear h1 h2 h3
  go_wp2_with fail
  go_ret
  exact DPost.from HA.out ⟨rfl, ids', H1.out, H2.out, H3.out⟩
set_option maxRecDepth 100000 in
set_option maxHeartbeats 2000000 in
theorem do_way1 {w : World} {B N seq : Nat} {ids : List Nat} {t : TS} (h : TIs w B N seq ids t) (hN : N ≤ 100000) (hs : seq < 4294967296) {x : AP} (hx : x.ok) (hk : x.k % 10 = 1) : Calls Try.prog 25 #[.pointer (some ⟨B, 0, none⟩), .agg x.cells.toArray] w (DPost B N seq ids (endT t) w) := by
  have hkl := hx.k
  have e0 : ((x.k : Int) % 10 == 0) = false := by simp; omega
  have e1 : ((x.k : Int) % 10 == 1) = true := by simp; omega
  have h0 := h.kept (Touch.alloc [] w (.cells x.cells.toArray 56)) (by simp)
  have HT := Lib.hid h0
  have HX := Lib.hid hx
  have hAl := Touch.alloc [] w (.cells x.cells.toArray 56)
  have HA := Lib.hid hAl
  have hob := heap_alloc_last w (.cells x.cells.toArray 56)
  have HB := Lib.hid (show w.heap.size < (w.alloc (.cells x.cells.toArray 56)).heap.size by simp)
  have c0 := cell_at hob 0
  have c1 := cell_at hob 1
  have c2 := cell_at hob 2
  have c3 := cell_at hob 3
  clear h h0 hAl hob
  unfold AP.cells at *
  simp only [List.getElem?_toArray, List.getElem?_cons_zero, List.getElem?_cons_succ] at c0 c1 c2 c3
  go_enter Try.func25, Try.ntmps25
  go_upto_region 1 with (fail)
  generalize (w.alloc (.cells [Value.int .u8 (x.k : Int), .int .i64 x.at_, .int .i64 x.more, .int .u32 (x.fill : Int)].toArray 56)) = W0 at *
  go_wp2_with fail
  refine (end_any HT.out).mono ?_
  rintro e w2 ⟨rfl, ids', h1, h2, h3⟩
  have H1 := Lib.hid h1
  have H2 := Lib.hid h2
  have H3 := Lib.hid h3
  clear h1 h2 h3
  go_wp2_with fail
  go_ret
  exact DPost.from HA.out ⟨rfl, ids', H1.out, H2.out, H3.out⟩
set_option maxRecDepth 100000 in
set_option maxHeartbeats 2000000 in
theorem do_way2 {w : World} {B N seq : Nat} {ids : List Nat} {t : TS} (h : TIs w B N seq ids t) (hN : N ≤ 100000) (hs : seq < 4294967296) {x : AP} (hx : x.ok) (hk : x.k % 10 = 2) : Calls Try.prog 25 #[.pointer (some ⟨B, 0, none⟩), .agg x.cells.toArray] w (DPost B N seq ids (undoT t) w) := by
  have hkl := hx.k
  have e0 : ((x.k : Int) % 10 == 0) = false := by simp; omega
  have e1 : ((x.k : Int) % 10 == 1) = false := by simp; omega
  have e2 : ((x.k : Int) % 10 == 2) = true := by simp; omega
  have h0 := h.kept (Touch.alloc [] w (.cells x.cells.toArray 56)) (by simp)
  have HT := Lib.hid h0
  have HX := Lib.hid hx
  have hAl := Touch.alloc [] w (.cells x.cells.toArray 56)
  have HA := Lib.hid hAl
  have hob := heap_alloc_last w (.cells x.cells.toArray 56)
  have HB := Lib.hid (show w.heap.size < (w.alloc (.cells x.cells.toArray 56)).heap.size by simp)
  have c0 := cell_at hob 0
  have c1 := cell_at hob 1
  have c2 := cell_at hob 2
  have c3 := cell_at hob 3
  clear h h0 hAl hob
  unfold AP.cells at *
  simp only [List.getElem?_toArray, List.getElem?_cons_zero, List.getElem?_cons_succ] at c0 c1 c2 c3
  go_enter Try.func25, Try.ntmps25
  go_upto_region 1 with (fail)
  generalize (w.alloc (.cells [Value.int .u8 (x.k : Int), .int .i64 x.at_, .int .i64 x.more, .int .u32 (x.fill : Int)].toArray 56)) = W0 at *
  go_wp2_with fail
  refine (undo_any HT.out).mono ?_
  rintro e w2 ⟨rfl, ids', h1, h2, h3⟩
  have H1 := Lib.hid h1
  have H2 := Lib.hid h2
  have H3 := Lib.hid h3
  clear h1 h2 h3
  go_wp2_with fail
  go_ret
  exact DPost.from HA.out ⟨rfl, ids', H1.out, H2.out, H3.out⟩
set_option maxRecDepth 100000 in
set_option maxHeartbeats 2000000 in
theorem do_way3 {w : World} {B N seq : Nat} {ids : List Nat} {t : TS} (h : TIs w B N seq ids t) (hN : N ≤ 100000) (hs : seq < 4294967296) {x : AP} (hx : x.ok) (hk : x.k % 10 = 3) : Calls Try.prog 25 #[.pointer (some ⟨B, 0, none⟩), .agg x.cells.toArray] w (DPost B N seq ids (orderT t x.at_) w) := by
  have hkl := hx.k
  have e0 : ((x.k : Int) % 10 == 0) = false := by simp; omega
  have e1 : ((x.k : Int) % 10 == 1) = false := by simp; omega
  have e2 : ((x.k : Int) % 10 == 2) = false := by simp; omega
  have e3 : ((x.k : Int) % 10 == 3) = true := by simp; omega
  have h0 := h.kept (Touch.alloc [] w (.cells x.cells.toArray 56)) (by simp)
  have HT := Lib.hid h0
  have HX := Lib.hid hx
  have hAl := Touch.alloc [] w (.cells x.cells.toArray 56)
  have HA := Lib.hid hAl
  have hob := heap_alloc_last w (.cells x.cells.toArray 56)
  have HB := Lib.hid (show w.heap.size < (w.alloc (.cells x.cells.toArray 56)).heap.size by simp)
  have c0 := cell_at hob 0
  have c1 := cell_at hob 1
  have c2 := cell_at hob 2
  have c3 := cell_at hob 3
  clear h h0 hAl hob
  unfold AP.cells at *
  simp only [List.getElem?_toArray, List.getElem?_cons_zero, List.getElem?_cons_succ] at c0 c1 c2 c3
  go_enter Try.func25, Try.ntmps25
  go_upto_region 1 with (fail)
  generalize (w.alloc (.cells [Value.int .u8 (x.k : Int), .int .i64 x.at_, .int .i64 x.more, .int .u32 (x.fill : Int)].toArray 56)) = W0 at *
  go_wp2_with fail
  refine (order_any HT.out hN HX.out.a).mono ?_
  rintro e w2 ⟨rfl, ids', h1, h2, h3⟩
  have H1 := Lib.hid h1
  have H2 := Lib.hid h2
  have H3 := Lib.hid h3
  clear h1 h2 h3
  go_wp2_with fail
  go_ret
  exact DPost.from HA.out ⟨rfl, ids', H1.out, H2.out, H3.out⟩
set_option maxRecDepth 100000 in
set_option maxHeartbeats 2000000 in
theorem do_way4 {w : World} {B N seq : Nat} {ids : List Nat} {t : TS} (h : TIs w B N seq ids t) (hN : N ≤ 100000) (hs : seq < 4294967296) {x : AP} (hx : x.ok) (hk : x.k % 10 = 4) : Calls Try.prog 25 #[.pointer (some ⟨B, 0, none⟩), .agg x.cells.toArray] w (DPost B N seq ids (forgetT t x.at_ true) w) := by
  have hkl := hx.k
  have e0 : ((x.k : Int) % 10 == 0) = false := by simp; omega
  have e1 : ((x.k : Int) % 10 == 1) = false := by simp; omega
  have e2 : ((x.k : Int) % 10 == 2) = false := by simp; omega
  have e3 : ((x.k : Int) % 10 == 3) = false := by simp; omega
  have e4 : ((x.k : Int) % 10 == 4) = true := by simp; omega
  have h0 := h.kept (Touch.alloc [] w (.cells x.cells.toArray 56)) (by simp)
  have HT := Lib.hid h0
  have HX := Lib.hid hx
  have hAl := Touch.alloc [] w (.cells x.cells.toArray 56)
  have HA := Lib.hid hAl
  have hob := heap_alloc_last w (.cells x.cells.toArray 56)
  have HB := Lib.hid (show w.heap.size < (w.alloc (.cells x.cells.toArray 56)).heap.size by simp)
  have c0 := cell_at hob 0
  have c1 := cell_at hob 1
  have c2 := cell_at hob 2
  have c3 := cell_at hob 3
  clear h h0 hAl hob
  unfold AP.cells at *
  simp only [List.getElem?_toArray, List.getElem?_cons_zero, List.getElem?_cons_succ] at c0 c1 c2 c3
  go_enter Try.func25, Try.ntmps25
  go_upto_region 1 with (fail)
  generalize (w.alloc (.cells [Value.int .u8 (x.k : Int), .int .i64 x.at_, .int .i64 x.more, .int .u32 (x.fill : Int)].toArray 56)) = W0 at *
  go_wp2_with fail
  refine (forget_any HT.out hN hs HX.out.a true).mono ?_
  rintro e w2 ⟨rfl, ids', h1, h2, h3⟩
  have H1 := Lib.hid h1
  have H2 := Lib.hid h2
  have H3 := Lib.hid h3
  clear h1 h2 h3
  go_wp2_with fail
  go_ret
  exact DPost.from HA.out ⟨rfl, ids', H1.out, H2.out, H3.out⟩
set_option maxRecDepth 100000 in
set_option maxHeartbeats 2000000 in
theorem do_way5 {w : World} {B N seq : Nat} {ids : List Nat} {t : TS} (h : TIs w B N seq ids t) (hN : N ≤ 100000) (hs : seq < 4294967296) {x : AP} (hx : x.ok) (hk : x.k % 10 = 5) : Calls Try.prog 25 #[.pointer (some ⟨B, 0, none⟩), .agg x.cells.toArray] w (DPost B N seq ids (forgetT t x.at_ false) w) := by
  have hkl := hx.k
  have e0 : ((x.k : Int) % 10 == 0) = false := by simp; omega
  have e1 : ((x.k : Int) % 10 == 1) = false := by simp; omega
  have e2 : ((x.k : Int) % 10 == 2) = false := by simp; omega
  have e3 : ((x.k : Int) % 10 == 3) = false := by simp; omega
  have e4 : ((x.k : Int) % 10 == 4) = false := by simp; omega
  have e5 : ((x.k : Int) % 10 == 5) = true := by simp; omega
  have h0 := h.kept (Touch.alloc [] w (.cells x.cells.toArray 56)) (by simp)
  have HT := Lib.hid h0
  have HX := Lib.hid hx
  have hAl := Touch.alloc [] w (.cells x.cells.toArray 56)
  have HA := Lib.hid hAl
  have hob := heap_alloc_last w (.cells x.cells.toArray 56)
  have HB := Lib.hid (show w.heap.size < (w.alloc (.cells x.cells.toArray 56)).heap.size by simp)
  have c0 := cell_at hob 0
  have c1 := cell_at hob 1
  have c2 := cell_at hob 2
  have c3 := cell_at hob 3
  clear h h0 hAl hob
  unfold AP.cells at *
  simp only [List.getElem?_toArray, List.getElem?_cons_zero, List.getElem?_cons_succ] at c0 c1 c2 c3
  go_enter Try.func25, Try.ntmps25
  go_upto_region 1 with (fail)
  generalize (w.alloc (.cells [Value.int .u8 (x.k : Int), .int .i64 x.at_, .int .i64 x.more, .int .u32 (x.fill : Int)].toArray 56)) = W0 at *
  go_wp2_with fail
  refine (forget_any HT.out hN hs HX.out.a false).mono ?_
  rintro e w2 ⟨rfl, ids', h1, h2, h3⟩
  have H1 := Lib.hid h1
  have H2 := Lib.hid h2
  have H3 := Lib.hid h3
  clear h1 h2 h3
  go_wp2_with fail
  go_ret
  exact DPost.from HA.out ⟨rfl, ids', H1.out, H2.out, H3.out⟩
set_option maxRecDepth 100000 in
set_option maxHeartbeats 2000000 in
theorem do_way6 {w : World} {B N seq : Nat} {ids : List Nat} {t : TS} (h : TIs w B N seq ids t) (hN : N ≤ 100000) (hs : seq < 4294967296) {x : AP} (hx : x.ok) (hk : 5 < x.k % 10) : Calls Try.prog 25 #[.pointer (some ⟨B, 0, none⟩), .agg x.cells.toArray] w (DPost B N seq ids (putT t x.at_ (fillB x.fill)) w) := by
  have hkl := hx.k
  have e0 : ((x.k : Int) % 10 == 0) = false := by simp; omega
  have e1 : ((x.k : Int) % 10 == 1) = false := by simp; omega
  have e2 : ((x.k : Int) % 10 == 2) = false := by simp; omega
  have e3 : ((x.k : Int) % 10 == 3) = false := by simp; omega
  have e4 : ((x.k : Int) % 10 == 4) = false := by simp; omega
  have e5 : ((x.k : Int) % 10 == 5) = false := by simp; omega
  have h0 := h.kept (Touch.alloc [] w (.cells x.cells.toArray 56)) (by simp)
  have HT := Lib.hid h0
  have HX := Lib.hid hx
  have hAl := Touch.alloc [] w (.cells x.cells.toArray 56)
  have HA := Lib.hid hAl
  have hob := heap_alloc_last w (.cells x.cells.toArray 56)
  have HB := Lib.hid (show w.heap.size < (w.alloc (.cells x.cells.toArray 56)).heap.size by simp)
  have c0 := cell_at hob 0
  have c1 := cell_at hob 1
  have c2 := cell_at hob 2
  have c3 := cell_at hob 3
  clear h h0 hAl hob
  unfold AP.cells at *
  simp only [List.getElem?_toArray, List.getElem?_cons_zero, List.getElem?_cons_succ] at c0 c1 c2 c3
  go_enter Try.func25, Try.ntmps25
  go_upto_region 1 with (fail)
  generalize (w.alloc (.cells [Value.int .u8 (x.k : Int), .int .i64 x.at_, .int .i64 x.more, .int .u32 (x.fill : Int)].toArray 56)) = W0 at *
  go_upto_region 13 with (fail)
  refine do_reg13 B w.heap.size N seq x.fill ids t x.at_ W0 (Lib.hid ⟨HB.out, c1⟩) (Lib.hid ⟨HB.out, c3⟩) HT hN hs HX.out.a HX.out.f _ _ _ _ _ _ _ _ _ _ _ _ _ _ _ _ _ _ _ _ _ _ _ _ _ _ _ _ _ _ _ _ _ _ _ _ _ _ _ _ _ _ _ _ _ _ _ (Lib.hid ?hk)
  intro u41 u42 u43 u44 u45 u46 u47 wz hp
  have HP := Lib.hid hp
  clear hp
  go_wp2_with fail
  go_ret
  exact DPost.from HA.out HP.out
theorem do_any {w : World} {B N seq : Nat} {ids : List Nat} {t : TS} (h : TIs w B N seq ids t) (hN : N ≤ 100000) (hs : seq < 4294967296) {x : AP} (hx : x.ok) : Calls Try.prog 25 #[.pointer (some ⟨B, 0, none⟩), .agg x.cells.toArray] w (DPost B N seq ids (doT t x) w) := by
  unfold doT
  by_cases h0 : x.k % 10 = 0
  · rw [if_pos h0]; exact do_way0 h hN hs hx h0
  rw [if_neg h0]
  by_cases h1 : x.k % 10 = 1
  · rw [if_pos h1]; exact do_way1 h hN hs hx h1
  rw [if_neg h1]
  by_cases h2 : x.k % 10 = 2
  · rw [if_pos h2]; exact do_way2 h hN hs hx h2
  rw [if_neg h2]
  by_cases h3 : x.k % 10 = 3
  · rw [if_pos h3]; exact do_way3 h hN hs hx h3
  rw [if_neg h3]
  by_cases h4 : x.k % 10 = 4
  · rw [if_pos h4]; exact do_way4 h hN hs hx h4
  rw [if_neg h4]
  by_cases h5 : x.k % 10 = 5
  · rw [if_pos h5]; exact do_way5 h hN hs hx h5
  rw [if_neg h5]
  exact do_way6 h hN hs hx (by omega)
#print axioms do_any
end Go.Proofs.Ytnogajnoghjmhaa
