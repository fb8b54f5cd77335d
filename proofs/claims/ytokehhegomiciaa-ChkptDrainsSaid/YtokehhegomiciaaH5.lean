/- A list of committed transactions: Next. -/
import Derived.Test.YtokehhegomiciaaH4
set_option linter.unusedVariables false
set_option linter.unusedSimpArgs false
namespace Go.Proofs.Ytokehhegomiciaa
open Go.RowKit Go.Maps

noncomputable def next_reg9Code : Code := regById 9 (codesOf (Try.f19.body.getD .skip))
set_option maxRecDepth 100000 in
set_option maxHeartbeats 4000000 in
theorem next_reg9 (B ga oa n cap S sq nx : Nat) (st cnt : Int) (X : Array Value) (W1 : World) (HN : Hid (1 < n)) (HC7 : Hid (B < W1.heap.size ∧ W1.cell? ⟨B, 7, none⟩ = some (.slice (some ⟨ga, oa, none⟩) n cap))) (HQ0 : Hid (ga < W1.heap.size ∧ W1.cell? ⟨ga, oa + 5, none⟩ = some (.int .u32 (sq : Int)))) (HQ1 : Hid (ga < W1.heap.size ∧ W1.cell? ⟨ga, oa + 5 + 1, none⟩ = some (.int .i64 st))) (HS : Hid (W1.heap[S]? = some (.cells X 57))) (HX : Hid (X.size = 261))
    (s1 s2 s3 s4 s5 s6 s7 s8 s9 s11 s12 s13 s14 s15 s16 s17 s18 s19 s20 s21 s22 s23 s24 s25 s26 s27 s28 s29 s30 s31 s32 s33 s34 s35 s36 s37 s38 s39 s40 s41 s42 s43 s44 s45 s46 s47 s48 s49 s50 s51 s52 s53 s54 s55 s56 s57 s58 s59 s60 s61 s62 s63 s64 s65 s66 s67 s68 s69 s70 s71 s72 s73 s74 s75 : Value) (Q : Exit → Act → World → Prop) (HK : Hid (∀ u53 u54 u55 u56 u57 u58 u59 u60 u61 u62 u63 u64 u65 u66 u67 u68 wz, wz.heap[S]? = some (.cells ((X.setIfInBounds 258 (.int .u32 (sq : Int))).setIfInBounds 259 (.int .i64 st)) 57) → Touch [S] W1 wz → Q .normal ⟨(.pointer (some ⟨B, 0, none⟩) :: s1 :: s2 :: s3 :: s4 :: s5 :: s6 :: s7 :: s8 :: s9 :: .pointer (some ⟨S, 0, none⟩) :: s11 :: s12 :: s13 :: s14 :: s15 :: s16 :: s17 :: s18 :: s19 :: s20 :: s21 :: s22 :: s23 :: s24 :: s25 :: s26 :: s27 :: s28 :: s29 :: s30 :: s31 :: s32 :: s33 :: s34 :: s35 :: s36 :: s37 :: s38 :: s39 :: s40 :: s41 :: s42 :: s43 :: s44 :: s45 :: s46 :: s47 :: s48 :: s49 :: s50 :: s51 :: s52 :: u53 :: u54 :: u55 :: u56 :: u57 :: u58 :: u59 :: u60 :: u61 :: u62 :: u63 :: u64 :: u65 :: u66 :: u67 :: u68 :: s69 :: s70 :: s71 :: s72 :: s73 :: s74 :: s75 :: []).toArray, []⟩ (wz))) : next_reg9Code.wp Try.prog Q ⟨(.pointer (some ⟨B, 0, none⟩) :: s1 :: s2 :: s3 :: s4 :: s5 :: s6 :: s7 :: s8 :: s9 :: .pointer (some ⟨S, 0, none⟩) :: s11 :: s12 :: s13 :: s14 :: s15 :: s16 :: s17 :: s18 :: s19 :: s20 :: s21 :: s22 :: s23 :: s24 :: s25 :: s26 :: s27 :: s28 :: s29 :: s30 :: s31 :: s32 :: s33 :: s34 :: s35 :: s36 :: s37 :: s38 :: s39 :: s40 :: s41 :: s42 :: s43 :: s44 :: s45 :: s46 :: s47 :: s48 :: s49 :: s50 :: s51 :: s52 :: s53 :: s54 :: s55 :: s56 :: s57 :: s58 :: s59 :: s60 :: s61 :: s62 :: s63 :: s64 :: s65 :: s66 :: s67 :: s68 :: s69 :: s70 :: s71 :: s72 :: s73 :: s74 :: s75 :: []).toArray, []⟩ W1 := by
  conv => arg 2; whnf
  refine wp_region_facts_tail 15 (by kernel_rfl) (by kernel_rfl) [[], [(0, some 53)], [(1, some 54)], [(2, some 55)], [(3, some 56)], [(4, some 57)], [(5, some 58)], [], [(7, some 60)], [(8, some 61)], [(9, some 62)], [(10, some 63)], [(11, some 64)], [(12, some 65)], [(6, some 59), (13, some 66)]] [(0, some 53), (1, some 54), (2, some 55), (3, some 56), (4, some 57), (5, some 58), (6, some 59), (7, some 60), (8, some 61), (9, some 62), (10, some 63), (11, some 64), (12, some 65), (13, some 66), (14, some 67)] (by kernel_rfl) (by kernel_rfl) (by kernel_rfl) (Touch []) (Touch.refl []) (fun _ _ _ h h' => h.trans h' (fun i hi => .inl hi)) [Is (Value.pointer (some ⟨B, 0, none⟩)), Is (Value.pointer (some ⟨B, 0, none⟩)), Is (Value.pointer (some ⟨B, 7, none⟩)), Is (Value.slice (some ⟨ga, oa, none⟩) n cap), Is (Value.pointer (some ⟨ga, oa + 5, none⟩)), Is (Value.pointer (some ⟨ga, oa + 5, none⟩)), Is (Value.int .u32 (sq : Int)), Is (Value.pointer (some ⟨B, 0, none⟩)), Is (Value.pointer (some ⟨B, 0, none⟩)), Is (Value.pointer (some ⟨B, 7, none⟩)), Is (Value.slice (some ⟨ga, oa, none⟩) n cap), Is (Value.pointer (some ⟨ga, oa + 5, none⟩)), Is (Value.pointer (some ⟨ga, oa + 5 + 1, none⟩)), Is (Value.int .i64 st), Is (Value.agg #[.int .u32 (sq : Int), .int .i64 st])] rfl ⟨is_stab _ _, is_stab _ _, is_stab _ _, is_stab _ _, is_stab _ _, is_stab _ _, is_stab _ _, is_stab _ _, is_stab _ _, is_stab _ _, is_stab _ _, is_stab _ _, is_stab _ _, is_stab _ _, is_stab _ _, trivial⟩ ⟨?o0, ?o1, ?o2, ?o3, ?o4, ?o5, ?o6, ?o7, ?o8, ?o9, ?o10, ?o11, ?o12, ?o13, ?o14, trivial⟩ ?_
  case o0 =>
    intro vals wq hRq hpq
    simp only [List.getD_cons_zero, List.getD_cons_succ, canonP]
    simp only [Oper.gives]
    go_simp
    exact ⟨is_mk _ _, (Touch.refl []) _⟩
  case o1 =>
    intro vals wq hRq hpq
    simp only [factsP, List.getD_cons_zero, List.getD_cons_succ] at hpq
    have f0 := hpq.1
    replace hpq := hpq.2
    clear hpq
    replace f0 : vals 0 = _ := f0
    simp only [List.getD_cons_zero, List.getD_cons_succ, canonP, f0]
    clear f0
    simp only [Oper.gives]
    go_simp
    exact ⟨is_mk _ _, (Touch.refl []) _⟩
  case o2 =>
    intro vals wq hRq hpq
    simp only [factsP, List.getD_cons_zero, List.getD_cons_succ] at hpq
    have f1 := hpq.1
    replace hpq := hpq.2
    clear hpq
    replace f1 : vals 1 = _ := f1
    simp only [List.getD_cons_zero, List.getD_cons_succ, canonP, f1]
    clear f1
    simp only [Oper.gives]
    go_simp
    exact ⟨is_mk _ _, (Touch.refl []) _⟩
  case o3 =>
    intro vals wq hRq hpq
    simp only [factsP, List.getD_cons_zero, List.getD_cons_succ] at hpq
    have f2 := hpq.1
    replace hpq := hpq.2
    clear hpq
    replace f2 : vals 2 = _ := f2
    simp only [List.getD_cons_zero, List.getD_cons_succ, canonP, f2]
    clear f2
    have hcc : wq.cell? ⟨B, 7, none⟩ = some (.slice (some ⟨ga, oa, none⟩) n cap) := (Touch.cell ((Touch.drew [] W1).trans hRq (by simp)) (a := ⟨B, 7, none⟩) HC7.out.1 (by simp)).trans HC7.out.2
    simp only [Oper.gives]
    go_simp
    exact ⟨is_mk _ _, Touch.refl _ _⟩
  case o4 =>
    intro vals wq hRq hpq
    simp only [factsP, List.getD_cons_zero, List.getD_cons_succ] at hpq
    have f3 := hpq.1
    replace hpq := hpq.2
    clear hpq
    replace f3 : vals 3 = _ := f3
    simp only [List.getD_cons_zero, List.getD_cons_succ, canonP, f3]
    clear f3
    have b1 : (1 : Int) < (n : Int) := by have := HN.out; omega
    simp only [Oper.gives]
    go_simp
    exact ⟨is_mk _ _, Touch.refl _ _⟩
  case o5 =>
    intro vals wq hRq hpq
    simp only [factsP, List.getD_cons_zero, List.getD_cons_succ] at hpq
    have f4 := hpq.1
    replace hpq := hpq.2
    clear hpq
    replace f4 : vals 4 = _ := f4
    simp only [List.getD_cons_zero, List.getD_cons_succ, canonP, f4]
    clear f4
    simp only [Oper.gives]
    go_simp
    exact ⟨is_mk _ _, (Touch.refl []) _⟩
  case o6 =>
    intro vals wq hRq hpq
    simp only [factsP, List.getD_cons_zero, List.getD_cons_succ] at hpq
    have f5 := hpq.1
    replace hpq := hpq.2
    clear hpq
    replace f5 : vals 5 = _ := f5
    simp only [List.getD_cons_zero, List.getD_cons_succ, canonP, f5]
    clear f5
    have hcc : wq.cell? ⟨ga, oa + 5, none⟩ = some (.int .u32 (sq : Int)) := (Touch.cell ((Touch.drew [] W1).trans hRq (by simp)) (a := ⟨ga, oa + 5, none⟩) HQ0.out.1 (by simp)).trans HQ0.out.2
    simp only [Oper.gives]
    go_simp
    exact ⟨is_mk _ _, Touch.refl _ _⟩
  case o7 =>
    intro vals wq hRq hpq
    simp only [List.getD_cons_zero, List.getD_cons_succ, canonP]
    simp only [Oper.gives]
    go_simp
    exact ⟨is_mk _ _, (Touch.refl []) _⟩
  case o8 =>
    intro vals wq hRq hpq
    simp only [factsP, List.getD_cons_zero, List.getD_cons_succ] at hpq
    have f7 := hpq.1
    replace hpq := hpq.2
    clear hpq
    replace f7 : vals 7 = _ := f7
    simp only [List.getD_cons_zero, List.getD_cons_succ, canonP, f7]
    clear f7
    simp only [Oper.gives]
    go_simp
    exact ⟨is_mk _ _, (Touch.refl []) _⟩
  case o9 =>
    intro vals wq hRq hpq
    simp only [factsP, List.getD_cons_zero, List.getD_cons_succ] at hpq
    have f8 := hpq.1
    replace hpq := hpq.2
    clear hpq
    replace f8 : vals 8 = _ := f8
    simp only [List.getD_cons_zero, List.getD_cons_succ, canonP, f8]
    clear f8
    simp only [Oper.gives]
    go_simp
    exact ⟨is_mk _ _, (Touch.refl []) _⟩
  case o10 =>
    intro vals wq hRq hpq
    simp only [factsP, List.getD_cons_zero, List.getD_cons_succ] at hpq
    have f9 := hpq.1
    replace hpq := hpq.2
    clear hpq
    replace f9 : vals 9 = _ := f9
    simp only [List.getD_cons_zero, List.getD_cons_succ, canonP, f9]
    clear f9
    have hcc : wq.cell? ⟨B, 7, none⟩ = some (.slice (some ⟨ga, oa, none⟩) n cap) := (Touch.cell ((Touch.drew [] W1).trans hRq (by simp)) (a := ⟨B, 7, none⟩) HC7.out.1 (by simp)).trans HC7.out.2
    simp only [Oper.gives]
    go_simp
    exact ⟨is_mk _ _, Touch.refl _ _⟩
  case o11 =>
    intro vals wq hRq hpq
    simp only [factsP, List.getD_cons_zero, List.getD_cons_succ] at hpq
    have f10 := hpq.1
    replace hpq := hpq.2
    clear hpq
    replace f10 : vals 10 = _ := f10
    simp only [List.getD_cons_zero, List.getD_cons_succ, canonP, f10]
    clear f10
    have b1 : (1 : Int) < (n : Int) := by have := HN.out; omega
    simp only [Oper.gives]
    go_simp
    exact ⟨is_mk _ _, Touch.refl _ _⟩
  case o12 =>
    intro vals wq hRq hpq
    simp only [factsP, List.getD_cons_zero, List.getD_cons_succ] at hpq
    have f11 := hpq.1
    replace hpq := hpq.2
    clear hpq
    replace f11 : vals 11 = _ := f11
    simp only [List.getD_cons_zero, List.getD_cons_succ, canonP, f11]
    clear f11
    simp only [Oper.gives]
    go_simp
    exact ⟨is_mk _ _, (Touch.refl []) _⟩
  case o13 =>
    intro vals wq hRq hpq
    simp only [factsP, List.getD_cons_zero, List.getD_cons_succ] at hpq
    have f12 := hpq.1
    replace hpq := hpq.2
    clear hpq
    replace f12 : vals 12 = _ := f12
    simp only [List.getD_cons_zero, List.getD_cons_succ, canonP, f12]
    clear f12
    have hcc : wq.cell? ⟨ga, oa + 5 + 1, none⟩ = some (.int .i64 st) := (Touch.cell ((Touch.drew [] W1).trans hRq (by simp)) (a := ⟨ga, oa + 5 + 1, none⟩) HQ1.out.1 (by simp)).trans HQ1.out.2
    simp only [Oper.gives]
    go_simp
    exact ⟨is_mk _ _, Touch.refl _ _⟩
  case o14 =>
    intro vals wq hRq hpq
    simp only [factsP, List.getD_cons_zero, List.getD_cons_succ] at hpq
    have f6 := hpq.1
    replace hpq := hpq.2
    have f13 := hpq.1
    replace hpq := hpq.2
    clear hpq
    replace f6 : vals 6 = _ := f6
    replace f13 : vals 13 = _ := f13
    simp only [List.getD_cons_zero, List.getD_cons_succ, canonP, f6, f13]
    clear f6 f13
    simp only [Oper.gives]
    go_simp
    exact ⟨is_mk _ _, Touch.refl _ _⟩
  intro vals wz hRwz hfwz
  simp only [AllFacts] at hfwz
  have g0 := hfwz.1
  replace hfwz := hfwz.2
  have g1 := hfwz.1
  replace hfwz := hfwz.2
  have g2 := hfwz.1
  replace hfwz := hfwz.2
  have g3 := hfwz.1
  replace hfwz := hfwz.2
  have g4 := hfwz.1
  replace hfwz := hfwz.2
  have g5 := hfwz.1
  replace hfwz := hfwz.2
  have g6 := hfwz.1
  replace hfwz := hfwz.2
  have g7 := hfwz.1
  replace hfwz := hfwz.2
  have g8 := hfwz.1
  replace hfwz := hfwz.2
  have g9 := hfwz.1
  replace hfwz := hfwz.2
  have g10 := hfwz.1
  replace hfwz := hfwz.2
  have g11 := hfwz.1
  replace hfwz := hfwz.2
  have g12 := hfwz.1
  replace hfwz := hfwz.2
  have g13 := hfwz.1
  replace hfwz := hfwz.2
  have g14 := hfwz.1
  replace hfwz := hfwz.2
  clear hfwz
  replace g0 : vals 0 = _ := g0
  replace g1 : vals 1 = _ := g1
  replace g2 : vals 2 = _ := g2
  replace g3 : vals 3 = _ := g3
  replace g4 : vals 4 = _ := g4
  replace g5 : vals 5 = _ := g5
  replace g6 : vals 6 = _ := g6
  replace g7 : vals 7 = _ := g7
  replace g8 : vals 8 = _ := g8
  replace g9 : vals 9 = _ := g9
  replace g10 : vals 10 = _ := g10
  replace g11 : vals 11 = _ := g11
  replace g12 : vals 12 = _ := g12
  replace g13 : vals 13 = _ := g13
  replace g14 : vals 14 = _ := g14
  simp only [List.drop_succ_cons, List.drop_zero]
  simp only [canonP, Act.put, List.setIfInBounds_toArray, List.set_cons_succ, List.set_cons_zero, g0, g1, g2, g3, g4, g5, g6, g7, g8, g9, g10, g11, g12, g13, g14]
  clear g0 g1 g2 g3 g4 g5 g6 g7 g8 g9 g10 g11 g12 g13 g14
  have hq := (Touch.drew [] W1).trans hRwz (by simp)
  have HS2 := Lib.hid ((hq.block S (Array.getElem?_eq_some_iff.1 HS.out).1 (by simp)).trans HS.out)
  have k0 : wz.cell? ⟨S, 258, none⟩ = some (X[258]'(by rw [HX.out]; omega)) := by rw [cell_at HS2.out]; simp [HX.out]
  have k1 : wz.cell? ⟨S, 259, none⟩ = some (X[259]'(by rw [HX.out]; omega)) := by rw [cell_at HS2.out]; simp [HX.out]
  have q0 := frozen_at HS2.out 258
  have q1 := frozen_at HS2.out 259
  have HH := Lib.hid (heap_set (heap_set HS2.out 258 (.int .u32 (sq : Int))) 259 (.int .i64 st))
  have HT := Lib.hid (((Touch.refl [S] W1).trans hq (by simp)).trans ((Touch.setCell (S := [S]) wz (a := ⟨S, 258, none⟩) (by simp) (.int .u32 (sq : Int))).trans (Touch.setCell (S := [S]) _ (a := ⟨S, 259, none⟩) (by simp) (.int .i64 st)) (fun i hi => .inl hi)) (fun i hi => .inl hi))
  clear hq
  generalize X[258]'(by rw [HX.out]; omega) = x8 at *
  generalize X[259]'(by rw [HX.out]; omega) = x9 at *
  go_wp2_with fail
  exact HK.out _ _ _ _ _ _ _ _ _ _ _ _ _ _ _ _ _ HH.out HT.out
#print axioms next_reg9
/-! ### plainly -/
def headC (r : List CT) (cnt : Int) (ps : Nat) (pst : Int) (nx : Nat) : SV := match r with
  | u :: _ => ⟨2, 0, zeroB, u.seq, u.start, cnt⟩
  | [] => if 0 < pst then ⟨2, 0, zeroB, ps, pst, cnt⟩ else ⟨2, 0, zeroB, nx, 0, cnt⟩
def nextC (s : CS) (ps : Nat) (pst : Int) (nx : Nat) : SV := match s.all with
  | [] => zeroS
  | t :: r => match t.left with
    | c :: _ => ⟨1, c.1, dataC (getC s.all c.1), 0, 0, 0⟩
    | [] => headC r t.count ps pst nx
theorem set_head (k : Int) (b : Int) (x : Blk) (hx : x.length = 256) (s0 s1 c c1 c2 : Value) : (((Value.int .u8 k :: .int .i64 b :: (bc x ++ [s0, s1, c])).toArray.setIfInBounds 258 c1).setIfInBounds 259 c2) = (Value.int .u8 k :: .int .i64 b :: (bc x ++ [c1, c2, c])).toArray := by
  have hl : (bc x).length = 256 := by rw [bc_length]; exact hx
  generalize bc x = y at *
  simp only [List.setIfInBounds_toArray, List.set_cons_succ]
  congr 1
  rw [List.set_append_right _ _ (by omega), List.set_append_right _ _ (by omega), hl]
  rfl
theorem scell_head (k : Nat) (b : Int) (x : Blk) (hx : x.length = 256) (a a' : Nat) (st st' c : Int) : (((scell ⟨k, b, x, a, st, c⟩).toArray.setIfInBounds 258 (.int .u32 (a' : Int))).setIfInBounds 259 (.int .i64 st')) = (scell ⟨k, b, x, a', st', c⟩).toArray := set_head _ _ _ hx _ _ _ _ _
theorem ssize {s : SV} (h : s.data.length = 256) : (Try.prog.info? 57).map (·.size) = some (scell s).toArray.size := by rw [List.size_toArray, scell_length h]; exact size57
theorem ssize0 {s : SV} (h : s.data.length = 256) : (scell zeroS).toArray.size = (scell s).toArray.size := by rw [zs_len, List.size_toArray, scell_length h]
theorem sone (s : SV) : (scell s).toArray.all (·.oneCell') = true := all_oneCell_toArray (scell_one s)
/-- a build whose cells are known -/
theorem wpList_buildE {P : Program} {ops : Array Oper} {rest : List Oper} {o : Oper} {a : Act} {w : World} {Q : Exit → Act → World → Prop} (hgd : o.guard = none) (t : TypeId) (parts : Array (Nat × Operand)) (ho : o.op = .build t parts) (Y : Array Value) (hb : P.built t ((parts.map fun (i, x) => (i, a.eval x)).toList) = some Y)
    (hK : wpList P ops Q rest (a.put o.dst (.agg Y)) w) : wpList P ops Q (o :: rest) a w := by
  refine wpList_build hgd t _ ho (by rw [hb]; rfl) ?_
  rw [hb]; exact hK
set_option maxRecDepth 100000 in
theorem next_not {w : World} {v : Value} {ps nx : Nat} {pst : Int} (hI : ∀ w', Grow w w' → Calls Try.prog 30 #[v] w' fun e w1 => e = .returned (.bool false) ∧ w' = w1) : Calls Try.prog 19 #[v, .agg #[.int .u32 (ps : Int), .int .i64 pst], .int .u32 (nx : Int)] w fun e w' => e = .returned (.agg (scell zeroS).toArray) ∧ Grow w w' := by
  have hz := zero57
  have HSz := Lib.hid (ssize (s := zeroS) zeroB_ok)
  have HO := Lib.hid (sone zeroS)
  have HB := Lib.hid built_none
  generalize (scell zeroS).toArray = Z at *
  have HI := Lib.hid (hI _ ((Grow.alloc w (.cells #[.int .u32 (ps : Int), .int .i64 pst] 53)).trans (Grow.alloc _ (.cells Z 57))))
  clear hI
  go_enter Try.func19, Try.ntmps19
  go_wp2_with fail
  refine HI.out.mono ?_
  rintro e w' ⟨rfl, rfl⟩
  go_wp2_with (first | ((refine wpList_build rfl 57 _ rfl (by rw [show (((#[] : Array (Nat × Operand)).map fun (i, x) => (i, Act.eval _ x)).toList) = [] from rfl, HB.out]; rfl) ?_); rw [show (((#[] : Array (Nat × Operand)).map fun (i, x) => (i, Act.eval _ x)).toList) = [] from rfl, HB.out, Option.getD_some]) | (refine wpList_store_row rfl 57 _ _ rfl (w.heap.size + 1) Z rfl rfl 57 Z (heap_two _ _ _) HSz.out rfl HO.out ?_))
  refine bodyPost_ret (results_cell_row rfl _ _ (w.heap.size + 1) 57 Z (0, 0) _ rfl (setRow_heap _ _ _ _ _ _ (heap_two _ _ _)) Try.underlying57 rfl HSz.out) rfl ⟨rfl, below_setRow (((Grow.alloc w _).trans (Grow.alloc _ _))) (by omega) _⟩
set_option maxRecDepth 100000 in
theorem next_nil {w : World} {B : Nat} {g : G4} {s : CS} {T : List Nat} {va : Value} {xs : List CV} (h : LSt w B g s T va xs) (hs : s.all = []) (ps nx : Nat) (pst : Int) : Calls Try.prog 19 #[.pointer (some ⟨B, 0, none⟩), .agg #[.int .u32 (ps : Int), .int .i64 pst], .int .u32 (nx : Int)] w fun e w' => e = .returned (.agg (scell zeroS).toArray) ∧ Grow w w' := by
  have hz := zero57
  have HSz := Lib.hid (ssize (s := zeroS) zeroB_ok)
  have HO := Lib.hid (sone zeroS)
  have HB := Lib.hid built_none
  generalize (scell zeroS).toArray = Z at *
  obtain ⟨a, cap, rfl⟩ := h.va
  have h0 := h.grow ((Grow.alloc w (.cells #[.int .u32 (ps : Int), .int .i64 pst] 53)).trans (Grow.alloc _ (.cells Z 57)))
  rw [hs] at h0
  have HI := Lib.hid (is_made (b := true) (cell_at h0.li.obj 0))
  have c7 : ((w.alloc (.cells #[.int .u32 (ps : Int), .int .i64 pst] 53)).alloc (.cells Z 57)).cell? ⟨B, 7, none⟩ = some (.slice a 0 cap) := cell_at h0.li.obj 7
  clear h h0
  go_enter Try.func19, Try.ntmps19
  go_wp2_with fail
  refine HI.out.mono ?_
  rintro e w' ⟨rfl, rfl⟩
  go_wp2_with (first | ((refine wpList_build rfl 57 _ rfl (by rw [show (((#[] : Array (Nat × Operand)).map fun (i, x) => (i, Act.eval _ x)).toList) = [] from rfl, HB.out]; rfl) ?_); rw [show (((#[] : Array (Nat × Operand)).map fun (i, x) => (i, Act.eval _ x)).toList) = [] from rfl, HB.out, Option.getD_some]) | (refine wpList_store_row rfl 57 _ _ rfl (w.heap.size + 1) Z rfl rfl 57 Z (heap_two _ _ _) HSz.out rfl HO.out ?_))
  refine bodyPost_ret (results_cell_row rfl _ _ (w.heap.size + 1) 57 Z (0, 0) _ rfl (setRow_heap _ _ _ _ _ _ (heap_two _ _ _)) Try.underlying57 rfl HSz.out) rfl ⟨rfl, below_setRow (((Grow.alloc w _).trans (Grow.alloc _ _))) (by omega) _⟩
#print axioms next_nil
set_option maxRecDepth 100000 in
set_option maxHeartbeats 2000000 in
theorem next_write {w : World} {B : Nat} {g : G4} {s : CS} {T : List Nat} {va : Value} {xs : List CV} (h : LSt w B g s T va xs) {t : CT} {r : List CT} (hs : s.all = t :: r) {c : Cp} {l : List Cp} (hl : t.left = c :: l) (hc : IntOk c.1 ∧ 0 ≤ c.1) (hx : (dataC (getC s.all c.1)).length = 256) (ps nx : Nat) (pst : Int) : Calls Try.prog 19 #[.pointer (some ⟨B, 0, none⟩), .agg #[.int .u32 (ps : Int), .int .i64 pst], .int .u32 (nx : Int)] w fun e w' => e = .returned (.agg (scell ⟨1, c.1, dataC (getC s.all c.1), 0, 0, 0⟩).toArray) ∧ Grow w w' := by
  have hz := zero57
  have hz2 := zero32
  have HBb := Lib.hid (show (Try.prog.info? 33).map (·.size) = some (bc (dataC (getC s.all c.1))).toArray.size by rw [List.size_toArray, bc_length, hx]; exact size32)
  have HBz := Lib.hid (show (bc zeroB).toArray.size = (bc (dataC (getC s.all c.1))).toArray.size by rw [zero_size, List.size_toArray, bc_length, hx])
  have HBo := Lib.hid (show (bc (dataC (getC s.all c.1))).toArray.all (·.oneCell') = true from all_oneCell_toArray (bc_one _))
  have HSz := Lib.hid (ssize (s := ⟨1, c.1, dataC (getC s.all c.1), 0, 0, 0⟩) hx)
  have HS0 := Lib.hid (ssize0 (s := ⟨1, c.1, dataC (getC s.all c.1), 0, 0, 0⟩) hx)
  have HO := Lib.hid (sone ⟨1, c.1, dataC (getC s.all c.1), 0, 0, 0⟩)
  have HB := Lib.hid (built_write c.1 (dataC (getC s.all c.1)) hx)
  generalize (bc zeroB).toArray = Z2 at *
  generalize (scell zeroS).toArray = Z at *
  generalize (scell ⟨1, c.1, dataC (getC s.all c.1), 0, 0, 0⟩).toArray = Y at *
  obtain ⟨a, cap, rfl⟩ := h.va
  have h0 := h.grow ((Grow.alloc w (.cells #[.int .u32 (ps : Int), .int .i64 pst] 53)).trans (Grow.alloc _ (.cells Z 57)))
  have HL := Lib.hid (least_ok h0 hs)
  have HLE := Lib.hid (show leastL t.left = c.1 by rw [hl]; rfl)
  have HH := Lib.hid h0
  have HI := Lib.hid (is_made (b := true) (cell_at h0.li.obj 0))
  obtain ⟨n, hn⟩ : ∃ n, n = s.all.length := ⟨_, rfl⟩
  have c7 : ((w.alloc (.cells #[.int .u32 (ps : Int), .int .i64 pst] 53)).alloc (.cells Z 57)).cell? ⟨B, 7, none⟩ = some (.slice a n cap) := by rw [hn]; exact cell_at h0.li.obj 7
  have d0 : ((n : Int) == 0) = false := by rw [hn, hs]; simp; omega
  have HZ0 := Lib.hid (show Grow w ((w.alloc (.cells #[.int .u32 (ps : Int), .int .i64 pst] 53)).alloc (.cells Z 57)) from (Grow.alloc _ _).trans (Grow.alloc _ _))
  have HS1 := Lib.hid (show ((w.alloc (.cells #[.int .u32 (ps : Int), .int .i64 pst] 53)).alloc (.cells Z 57)).heap[w.heap.size + 1]? = some (.cells Z 57) from heap_two _ _ _)
  have HIc := Lib.hid hc.1
  have hc0 := hc.2
  have d1 : decide (c.1 ≥ 0) = true := decide_eq_true hc0
  clear h h0 hs hl hn hc
  go_enter Try.func19, Try.ntmps19
  go_wp2_with fail
  refine HI.out.mono ?_
  rintro e w' ⟨rfl, rfl⟩
  go_wp2_with fail
  refine HL.out.mono ?_
  intro e w1 hp
  rw [HLE.out] at hp
  obtain ⟨rfl, hg1⟩ := hp
  have HG := Lib.hid (get_ok (HH.out.grow hg1) c.1 HIc.out)
  have HG1 := Lib.hid hg1
  generalize dataC (getC s.all c.1) = x at *
  generalize (getC s.all c.1).isSome = f at *
  clear hg1 c7
  go_wp2_with fail
  refine HG.out.mono ?_
  intro e w2 hp
  obtain ⟨rfl, hg2⟩ := hp
  have HG2 := Lib.hid hg2
  clear hg2
  have HS2 := Lib.hid ((HG2.out.block _ (by have := HG1.out.size; simp at this; omega)).trans ((HG1.out.block _ (by simp)).trans HS1.out))
  go_upto_region 6 with (first | (refine wpList_store_row rfl 33 _ _ rfl w2.heap.size (bc x).toArray rfl rfl 33 Z2 (heap_alloc_last _ _) HBb.out HBz.out HBo.out ?_))
  have HX3 := Lib.hid (show ((w2.alloc (.cells Z2 33)).setRow w2.heap.size (bc x).toArray).heap[w2.heap.size]? = some (.cells (bc x).toArray 33) from setRow_heap _ _ _ _ _ _ (heap_alloc_last _ _))
  have HG3 := Lib.hid (show Grow w2 ((w2.alloc (.cells Z2 33)).setRow w2.heap.size (bc x).toArray) from below_setRow (Grow.alloc _ _) (Nat.le_refl _) _)
  generalize ((w2.alloc (.cells Z2 33)).setRow w2.heap.size (bc x).toArray) = w3 at *
  have HS3 := Lib.hid ((HG3.out.block _ (Array.getElem?_eq_some_iff.1 HS2.out).1).trans HS2.out)
  have HW3 := Lib.hid (show Grow w w3 from HZ0.out.trans (HG1.out.trans (HG2.out.trans HG3.out)))
  go_wp2_with (first | (refine wpList_load_row rfl 33 _ rfl w2.heap.size rfl 33 (bc x).toArray (0, 0) _ HX3.out Try.underlying33 rfl HBb.out ?_) | (refine wpList_buildE rfl 57 _ rfl Y (by simp only [List.map_toArray, List.map_cons, List.map_nil]; exact HB.out) ?_) | (refine wpList_store_row rfl 57 _ _ rfl (w.heap.size + 1) Y rfl rfl 57 Z HS3.out HSz.out HS0.out HO.out ?_))
  refine bodyPost_ret (results_cell_row rfl _ _ (w.heap.size + 1) 57 Y (0, 0) _ rfl (setRow_heap _ _ _ _ _ _ HS3.out) Try.underlying57 rfl HSz.out) rfl ⟨rfl, below_setRow HW3.out (by omega) _⟩
#print axioms next_write
set_option maxRecDepth 100000 in
set_option maxHeartbeats 4000000 in
theorem next_head {w : World} {B : Nat} {g : G4} {s : CS} {T : List Nat} {va : Value} {xs : List CV} (h : LSt w B g s T va xs) {t : CT} {r : List CT} (hs : s.all = t :: r) (hl : t.left = []) (ps nx : Nat) (pst : Int) : Calls Try.prog 19 #[.pointer (some ⟨B, 0, none⟩), .agg #[.int .u32 (ps : Int), .int .i64 pst], .int .u32 (nx : Int)] w fun e w' => e = .returned (.agg (scell (nextC s ps pst nx)).toArray) ∧ Grow w w' := by
  have HNX := Lib.hid (show nextC s ps pst nx = headC r t.count ps pst nx by unfold nextC; rw [hs]; simp only [hl])
  have hz := zero57
  have HZL := Lib.hid zs_len
  have HSz : ∀ (n : Nat) (st c : Int), Hid ((Try.prog.info? 57).map (·.size) = some (scell ⟨2, 0, zeroB, n, st, c⟩).toArray.size) := fun n st c => Lib.hid (ssize (s := ⟨2, 0, zeroB, n, st, c⟩) zeroB_ok)
  have HS0 : ∀ (n : Nat) (st c : Int), Hid ((scell zeroS).toArray.size = (scell ⟨2, 0, zeroB, n, st, c⟩).toArray.size) := fun n st c => Lib.hid (ssize0 (s := ⟨2, 0, zeroB, n, st, c⟩) zeroB_ok)
  have HO : ∀ (n : Nat) (st c : Int), Hid ((scell ⟨2, 0, zeroB, n, st, c⟩).toArray.all (·.oneCell') = true) := fun n st c => Lib.hid (sone _)
  have HB := Lib.hid (built_head nx t.count)
  have HSH : ∀ (n : Nat) (st : Int), Hid (((scell ⟨2, 0, zeroB, nx, 0, t.count⟩).toArray.setIfInBounds 258 (.int .u32 (n : Int))).setIfInBounds 259 (.int .i64 st) = (scell ⟨2, 0, zeroB, n, st, t.count⟩).toArray) := fun n st => Lib.hid (scell_head 2 0 zeroB zeroB_ok _ _ _ _ _)
  obtain ⟨YF, hYF⟩ : ∃ YF : Nat → Int → Array Value, ∀ n st, (scell ⟨2, 0, zeroB, n, st, t.count⟩).toArray = YF n st := ⟨_, fun _ _ => rfl⟩
  have HSz : ∀ (n : Nat) (st : Int), Hid ((Try.prog.info? 57).map (·.size) = some (YF n st).size) := fun n st => by rw [← hYF]; exact HSz n st t.count
  have HS0 : ∀ (n : Nat) (st : Int), Hid ((scell zeroS).toArray.size = (YF n st).size) := fun n st => by rw [← hYF]; exact HS0 n st t.count
  have HO : ∀ (n : Nat) (st : Int), Hid ((YF n st).all (·.oneCell') = true) := fun n st => by rw [← hYF]; exact HO n st t.count
  have HSH : ∀ (n : Nat) (st : Int), Hid (((YF nx 0).setIfInBounds 258 (.int .u32 (n : Int))).setIfInBounds 259 (.int .i64 st) = YF n st) := fun n st => by rw [← hYF, ← hYF]; exact HSH n st
  have HSN : ∀ (n : Nat) (st : Int), Hid ((YF n st).size = 261) := fun n st => Lib.hid (((HS0 n st).out.symm).trans zs_len)
  rw [hYF] at HB
  have HYF := Lib.hid hYF
  clear hYF
  generalize (scell zeroS).toArray = Z at *
  obtain ⟨a, cap, rfl⟩ := h.va
  have h0 := h.grow ((Grow.alloc w (.cells #[.int .u32 (ps : Int), .int .i64 pst] 53)).trans (Grow.alloc _ (.cells Z 57)))
  have HL := Lib.hid (least_ok h0 hs)
  have HLE := Lib.hid (show leastL t.left = -1 by rw [hl]; rfl)
  have HI := Lib.hid (is_made (b := true) (cell_at h0.li.obj 0))
  have hlx := h.rowlen
  obtain ⟨x, hx⟩ : ∃ x, xs[0]? = some x := ⟨xs[0]'(by rw [hlx, hs]; simp), by simp⟩
  have hxt : x.t = t := by have := h.at_all hx; rw [hs] at this; simpa using this.symm
  obtain ⟨ga, oa, rfl, _⟩ := h.li.elem hx
  have HH := Lib.hid h0
  obtain ⟨n, hn⟩ : ∃ n, n = s.all.length := ⟨_, rfl⟩
  have hn1 : 0 < n := by rw [hn, hs]; simp
  have c7 : ((w.alloc (.cells #[.int .u32 (ps : Int), .int .i64 pst] 53)).alloc (.cells Z 57)).cell? ⟨B, 7, none⟩ = some (.slice (some ⟨ga, oa, none⟩) n cap) := by rw [hn]; exact cell_at h0.li.obj 7
  have HN := Lib.hid hn
  have d0 : ((n : Int) == 0) = false := by simp; omega
  have HZ0 := Lib.hid (show Grow w ((w.alloc (.cells #[.int .u32 (ps : Int), .int .i64 pst] 53)).alloc (.cells Z 57)) from (Grow.alloc _ _).trans (Grow.alloc _ _))
  have HS1 := Lib.hid (show ((w.alloc (.cells #[.int .u32 (ps : Int), .int .i64 pst] 53)).alloc (.cells Z 57)).heap[w.heap.size + 1]? = some (.cells Z 57) from heap_two _ _ _)
  have HP1 := Lib.hid (show ((w.alloc (.cells #[.int .u32 (ps : Int), .int .i64 pst] 53)).alloc (.cells Z 57)).heap[w.heap.size]? = some (.cells #[.int .u32 (ps : Int), .int .i64 pst] 53) from heap_one _ _ _)
  have HXT := Lib.hid hxt
  have HX := Lib.hid hx
  have HS := Lib.hid hs
  clear h h0 hl hn hs hx hxt hlx
  go_enter Try.func19, Try.ntmps19
  go_wp2_with fail
  refine HI.out.mono ?_
  rintro e w' ⟨rfl, rfl⟩
  go_wp2_with fail
  refine HL.out.mono ?_
  intro e w1 hp
  rw [HLE.out] at hp
  obtain ⟨rfl, hg1⟩ := hp
  have HG1 := Lib.hid hg1
  have HH1 := Lib.hid (HH.out.grow hg1)
  have hsz1 : w.heap.size + 2 ≤ w1.heap.size := by have := hg1.size; simpa using this
  obtain ⟨ga', oa', hv', hr, q2, _, _⟩ := HH1.out.li.elem HX.out
  cases hv'
  rw [Nat.zero_mul, Nat.add_zero, HXT.out] at q2
  have c7 : w1.cell? ⟨B, 7, none⟩ = some (.slice (some ⟨ga, oa, none⟩) n cap) := by rw [HN.out]; exact cell_at HH1.out.li.obj 7
  have HS1b := Lib.hid ((hg1.block _ (by simp)).trans HS1.out)
  have HP1b := Lib.hid ((hg1.block _ (by simp; omega)).trans HP1.out)
  clear hg1 hr
  obtain ⟨cnt, hcnt⟩ : ∃ cnt, t.count = cnt := ⟨_, rfl⟩
  rw [hcnt] at HB q2
  have HCN := Lib.hid hcnt
  clear hcnt
  go_upto_region 8 with (first | (refine wpList_buildE rfl 57 _ rfl (YF nx 0) (by simp only [List.map_toArray, List.map_cons, List.map_nil]; exact HB.out) ?_) | (refine wpList_store_row rfl 57 _ _ rfl w1.heap.size (YF nx 0) rfl rfl 57 Z (heap_alloc_last _ _) (HSz _ _).out (HS0 _ _).out (HO _ _).out ?_))
  have HY2 := Lib.hid (show ((w1.alloc (.cells Z 57)).setRow w1.heap.size (YF nx 0)).heap[w1.heap.size]? = some (.cells (YF nx 0) 57) from setRow_heap _ _ _ _ _ _ (heap_alloc_last _ _))
  have HG2 := Lib.hid (show Grow w1 ((w1.alloc (.cells Z 57)).setRow w1.heap.size (YF nx 0)) from below_setRow (Grow.alloc _ _) (Nat.le_refl _) _)
  generalize ((w1.alloc (.cells Z 57)).setRow w1.heap.size (YF nx 0)) = w2 at *
  have HH2 := Lib.hid (HH1.out.grow HG2.out)
  have HS2 := Lib.hid ((HG2.out.block _ (by omega)).trans HS1b.out)
  have hp2 := (HG2.out.block _ (by omega)).trans HP1b.out
  have p0 := cell_at hp2 0
  have p1 := cell_at hp2 1
  simp only [List.getElem?_toArray, List.getElem?_cons_zero, List.getElem?_cons_succ] at p0 p1
  clear c7 q2
  have c7 : w2.cell? ⟨B, 7, none⟩ = some (.slice (some ⟨ga, oa, none⟩) n cap) := by rw [HN.out]; exact cell_at HH2.out.li.obj 7
  have HW2 := Lib.hid (show Grow w w2 from HZ0.out.trans (HG1.out.trans HG2.out))
  clear hp2
  rcases r with _ | ⟨u, r⟩
  · have hn2 : n = 1 := by rw [HN.out, HS.out]; rfl
    have d1 : decide ((n : Int) > 1) = false := by simp; omega
    by_cases hps : 0 < pst
    · have HN2 := Lib.hid (HNX.out.trans (if_pos hps))
      have d2 : decide (pst > 0) = true := decide_eq_true hps
      have k0 : w2.cell? ⟨w1.heap.size, 258, none⟩ = some ((YF nx 0)[258]'(by rw [(HSN _ _).out]; omega)) := by rw [cell_at HY2.out]; simp [(HSN _ _).out]
      have k1 : w2.cell? ⟨w1.heap.size, 259, none⟩ = some ((YF nx 0)[259]'(by rw [(HSN _ _).out]; omega)) := by rw [cell_at HY2.out]; simp [(HSN _ _).out]
      have q0 := frozen_at HY2.out 258
      have q1 := frozen_at HY2.out 259
      have HY3 := Lib.hid ((heap_set (heap_set HY2.out 258 (.int .u32 (ps : Int))) 259 (.int .i64 pst)).trans (by rw [(HSH ps pst).out]))
      have HT3 := Lib.hid ((Touch.setCell (S := [w1.heap.size]) w2 (a := ⟨w1.heap.size, 258, none⟩) (by simp) (.int .u32 (ps : Int))).trans (Touch.setCell (S := [w1.heap.size]) _ (a := ⟨w1.heap.size, 259, none⟩) (by simp) (.int .i64 pst)) (fun i hi => .inl hi))
      generalize (YF nx 0)[258]'(by rw [(HSN _ _).out]; omega) = x8 at *
      generalize (YF nx 0)[259]'(by rw [(HSN _ _).out]; omega) = x9 at *
      go_upto_region 12 with (fail)
      generalize (w2.setCell ⟨w1.heap.size, 258, none⟩ (.int .u32 (ps : Int))).setCell ⟨w1.heap.size, 259, none⟩ (.int .i64 pst) = w3 at *
      have HS3 := Lib.hid ((HT3.out.block (w.heap.size + 1) (Array.getElem?_eq_some_iff.1 HS2.out).1 (by simp; omega)).trans HS2.out)
      have HW3 := Lib.hid (show Grow w w3 from Below.trans HW2.out (HT3.out.below HW2.out.size (by simp; omega)))
      clear c7 k0 k1 q0 q1
      go_wp2_with (first | (refine wpList_load_row rfl 57 _ rfl w1.heap.size rfl 57 (YF ps pst) (0, 0) _ HY3.out Try.underlying57 rfl (HSz _ _).out ?_) | (refine wpList_store_row rfl 57 _ _ rfl (w.heap.size + 1) (YF ps pst) rfl rfl 57 Z HS3.out (HSz _ _).out (HS0 _ _).out (HO _ _).out ?_))
      refine bodyPost_ret (results_cell_row rfl _ _ (w.heap.size + 1) 57 (YF ps pst) (0, 0) _ rfl (setRow_heap _ _ _ _ _ _ HS3.out) Try.underlying57 rfl (HSz _ _).out) rfl ⟨by rw [HN2.out, HYF.out], below_setRow HW3.out (by omega) _⟩
    · have HN2 := Lib.hid (HNX.out.trans (if_neg hps))
      have d2 : decide (pst > 0) = false := decide_eq_false hps
      go_wp2_with (first | (refine wpList_load_row rfl 57 _ rfl w1.heap.size rfl 57 (YF nx 0) (0, 0) _ HY2.out Try.underlying57 rfl (HSz _ _).out ?_) | (refine wpList_store_row rfl 57 _ _ rfl (w.heap.size + 1) (YF nx 0) rfl rfl 57 Z HS2.out (HSz _ _).out (HS0 _ _).out (HO _ _).out ?_))
      refine bodyPost_ret (results_cell_row rfl _ _ (w.heap.size + 1) 57 (YF nx 0) (0, 0) _ rfl (setRow_heap _ _ _ _ _ _ HS2.out) Try.underlying57 rfl (HSz _ _).out) rfl ⟨by rw [HN2.out, HYF.out], below_setRow HW2.out (by omega) _⟩
  · have d1 : decide ((n : Int) > 1) = true := by rw [HN.out, HS.out]; simp; omega
    have HN2 := Lib.hid (show nextC s ps pst nx = ⟨2, 0, zeroB, u.seq, u.start, t.count⟩ from HNX.out)
    have HNn := Lib.hid (show 1 < n by rw [HN.out, HS.out]; simp)
    obtain ⟨y, hy⟩ : ∃ y, xs[1]? = some y := ⟨xs[1]'(by rw [HH2.out.rowlen, HS.out]; simp), by simp⟩
    have hyt : y.t = u := by have := HH2.out.at_all hy; rw [HS.out] at this; simpa using this.symm
    obtain ⟨ga', oa', hv', hr, _⟩ := HH2.out.li.elem hy
    cases hv'
    have hq0 : w2.cell? ⟨ga, oa + 5, none⟩ = some (.int .u32 (u.seq : Int)) := by have := hr 0 _ rfl; rw [hyt] at this; simpa using this
    have hq1 : w2.cell? ⟨ga, oa + 5 + 1, none⟩ = some (.int .i64 u.start) := by have := hr 1 _ rfl; rw [hyt] at this; simpa using this
    have HQ0 := Lib.hid (show ga < w2.heap.size ∧ w2.cell? ⟨ga, oa + 5, none⟩ = some (.int .u32 (u.seq : Int)) from ⟨World.block_lt_of_cell? w2 _ hq0, hq0⟩)
    have HQ1 := Lib.hid (show ga < w2.heap.size ∧ w2.cell? ⟨ga, oa + 5 + 1, none⟩ = some (.int .i64 u.start) from ⟨World.block_lt_of_cell? w2 _ hq1, hq1⟩)
    have HC7 := Lib.hid (show B < w2.heap.size ∧ w2.cell? ⟨B, 7, none⟩ = some (.slice (some ⟨ga, oa, none⟩) n cap) from ⟨World.block_lt_of_cell? w2 _ c7, c7⟩)
    clear hy hyt hr hq0 hq1
    go_upto_region 9 with (fail)
    refine next_reg9 B ga oa n cap w1.heap.size u.seq nx u.start cnt (YF nx 0) w2 HNn HC7 HQ0 HQ1 HY2 (HSN _ _) _ _ _ _ _ _ _ _ _ _ _ _ _ _ _ _ _ _ _ _ _ _ _ _ _ _ _ _ _ _ _ _ _ _ _ _ _ _ _ _ _ _ _ _ _ _ _ _ _ _ _ _ _ _ _ _ _ _ _ _ _ _ _ _ _ _ _ _ _ _ _ _ _ _ _ (Lib.hid ?hk9)
    intro u53 u54 u55 u56 u57 u58 u59 u60 u61 u62 u63 u64 u65 u66 u67 u68 w3 hY3 hT3
    rw [(HSH u.seq u.start).out] at hY3
    have HY3 := Lib.hid hY3
    have HS3 := Lib.hid ((hT3.block (w.heap.size + 1) (Array.getElem?_eq_some_iff.1 HS2.out).1 (by simp; omega)).trans HS2.out)
    have HW3 := Lib.hid (show Grow w w3 from Below.trans HW2.out (hT3.below HW2.out.size (by simp; omega)))
    clear hY3 hT3 c7
    go_wp2_with (first | (refine wpList_load_row rfl 57 _ rfl w1.heap.size rfl 57 (YF u.seq u.start) (0, 0) _ HY3.out Try.underlying57 rfl (HSz _ _).out ?_) | (refine wpList_store_row rfl 57 _ _ rfl (w.heap.size + 1) (YF u.seq u.start) rfl rfl 57 Z HS3.out (HSz _ _).out (HS0 _ _).out (HO _ _).out ?_))
    refine bodyPost_ret (results_cell_row rfl _ _ (w.heap.size + 1) 57 (YF u.seq u.start) (0, 0) _ rfl (setRow_heap _ _ _ _ _ _ HS3.out) Try.underlying57 rfl (HSz _ _).out) rfl ⟨by rw [HN2.out, HYF.out], below_setRow HW3.out (by omega) _⟩
#print axioms next_head
end Go.Proofs.Ytokehhegomiciaa
