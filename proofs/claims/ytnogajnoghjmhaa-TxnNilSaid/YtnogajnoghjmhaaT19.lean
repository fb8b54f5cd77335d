/- No transaction: what each call answers; the law TxnNil's region. -/
import Derived.Test.YtnogajnoghjmhaaT18
set_option linter.unusedVariables false
set_option linter.unusedSimpArgs false
namespace Go.Proofs.Ytnogajnoghjmhaa
open Go.RowKit Go.Maps

theorem NoMade.later {w w' : World} {v : Value} (h : NoMade w v) (ht : Touch [] w w') : NoMade w' v := fun W hW => h W (ht.trans hW (by simp))
theorem noMade_nil (w : World) : NoMade w (.pointer none) := fun W _ => made_none W
theorem noMade_bare {w : World} {B : Nat} (hB : B < w.heap.size) (h : w.cell? ⟨B, 0, none⟩ = some (.map none)) : NoMade w (.pointer (some ⟨B, 0, none⟩)) := fun W hW => made_bare ((hW.cell (a := ⟨B, 0, none⟩) hB (by simp)).trans h)
theorem NoMade.ask {w : World} {v : Value} (h : NoMade w v) (b : Int) : AskIs v b 1 w := ask_err (by decide) (handle_not (h w (Touch.refl _ _)))
theorem trans_not {w : World} {v : Value} (hM : NoMade w v) : Calls Try.prog 15 #[v] w fun e w' => e = .returned (.agg #[.int .u32 0, .slice none 0 0, .slice none 0 0]) ∧ Grow w w' := by
  have HB := Lib.hid (show Try.prog.built 41 [] = some #[.int .u32 0, .slice none 0 0, .slice none 0 0] by kernel_rfl)
  have HM := Lib.hid hM
  have hzt := zeroT
  clear hM
  go_enter Try.func15, Try.ntmps15
  go_wp2_with fail
  refine (HM.out _ (Touch.alloc [] _ _)).mono ?_
  rintro e w' ⟨rfl, rfl⟩
  go_wp2_with (first | ((refine wpList_build rfl 41 _ rfl (by rw [show (((#[] : Array (Nat × Operand)).map fun (i, x) => (i, Act.eval _ x)).toList) = [] from rfl, HB.out]; rfl) ?_); rw [show (((#[] : Array (Nat × Operand)).map fun (i, x) => (i, Act.eval _ x)).toList) = [] from rfl, HB.out, Option.getD_some]) | (refine wpList_store_row rfl 41 _ _ rfl w.heap.size #[.int .u32 0, .slice none 0 0, .slice none 0 0] rfl rfl 41 #[.int .u32 0, .slice none 0 0, .slice none 0 0] (heap_alloc_last _ _) infoT rfl rfl ?_))
  refine bodyPost_ret (results_cell_row rfl _ _ w.heap.size 41 #[.int .u32 0, .slice none 0 0, .slice none 0 0] (0, 0) _ rfl (heap_alloc_last _ _) Try.underlying41 rfl (by exact infoT)) rfl ⟨rfl, Grow.alloc _ _⟩
noncomputable def nil_reg8Code : Code := regById 8 (codesOf (Try.f7.body.getD .skip))
set_option maxRecDepth 100000 in
set_option maxHeartbeats 4000000 in
theorem nil_reg8 (A0 n : Nat) (a b : Int) (V : Value) (W1 : World) (HC1 : Hid (A0 < W1.heap.size ∧ W1.cell? ⟨A0, 1, none⟩ = some (.int .i64 a))) (HC2 : Hid (A0 < W1.heap.size ∧ W1.cell? ⟨A0, 2, none⟩ = some (.int .i64 b))) (HC3 : Hid (A0 < W1.heap.size ∧ W1.cell? ⟨A0, 3, none⟩ = some (.int .u32 (n : Int)))) (HM : Hid (NoMade W1 V)) (hn : n < 4294967296)
    (s0 s2 s3 s4 s5 s7 s8 s9 s10 s11 s12 s13 s14 s15 s16 s17 s18 s19 s20 s21 s22 s23 s24 s25 s26 s27 s28 s29 s30 s31 s32 s33 s34 s35 s36 s37 s38 s39 s40 s41 s42 s43 s44 s45 s46 s47 s48 s49 s50 s51 s52 s53 s54 s55 s56 s57 s58 s59 s60 s61 s62 s63 s64 s65 s66 s67 s68 s69 s70 s71 s72 s73 s74 s75 s76 s77 s78 s79 s80 s81 s82 s83 s84 s85 s86 s87 s88 s89 s90 s91 s92 s93 s94 s95 s96 s97 s98 s99 s100 s101 s102 s103 s104 s105 s106 s107 s108 s109 s110 s111 s112 s113 s114 s115 s116 : Value) (Q : Exit → Act → World → Prop) (HK : Hid (∀ u30 u31 u32 u33 u34 u35 u36 u37 u38 u39 u40 u41 u42 u43 u44 u45 u46 u47 u48 u49 u50 u51 u52 u53 u54 u55 u56 u57 u58 u59 u60 u61 u62 u63 u64 u65 u66 u67 u68 u69 wz, Touch [] W1 wz → Q .normal ⟨(s0 :: .pointer (some ⟨A0, 0, none⟩) :: s2 :: s3 :: s4 :: s5 :: V :: s7 :: s8 :: s9 :: s10 :: s11 :: s12 :: s13 :: s14 :: s15 :: s16 :: s17 :: s18 :: s19 :: s20 :: s21 :: s22 :: s23 :: s24 :: s25 :: s26 :: s27 :: s28 :: s29 :: u30 :: u31 :: u32 :: u33 :: u34 :: u35 :: u36 :: u37 :: u38 :: u39 :: u40 :: u41 :: u42 :: u43 :: u44 :: u45 :: u46 :: u47 :: u48 :: u49 :: u50 :: u51 :: u52 :: u53 :: u54 :: u55 :: u56 :: u57 :: u58 :: u59 :: u60 :: u61 :: u62 :: u63 :: u64 :: u65 :: u66 :: u67 :: u68 :: u69 :: .bool false :: s71 :: s72 :: s73 :: s74 :: s75 :: s76 :: s77 :: s78 :: s79 :: s80 :: s81 :: s82 :: s83 :: s84 :: s85 :: s86 :: s87 :: s88 :: s89 :: s90 :: s91 :: s92 :: s93 :: s94 :: s95 :: s96 :: s97 :: s98 :: s99 :: s100 :: s101 :: s102 :: s103 :: s104 :: s105 :: s106 :: s107 :: s108 :: s109 :: s110 :: s111 :: s112 :: s113 :: s114 :: s115 :: s116 :: []).toArray, []⟩ (wz))) : nil_reg8Code.wp Try.prog Q ⟨(s0 :: .pointer (some ⟨A0, 0, none⟩) :: s2 :: s3 :: s4 :: s5 :: V :: s7 :: s8 :: s9 :: s10 :: s11 :: s12 :: s13 :: s14 :: s15 :: s16 :: s17 :: s18 :: s19 :: s20 :: s21 :: s22 :: s23 :: s24 :: s25 :: s26 :: s27 :: s28 :: s29 :: s30 :: s31 :: s32 :: s33 :: s34 :: s35 :: s36 :: s37 :: s38 :: s39 :: s40 :: s41 :: s42 :: s43 :: s44 :: s45 :: s46 :: s47 :: s48 :: s49 :: s50 :: s51 :: s52 :: s53 :: s54 :: s55 :: s56 :: s57 :: s58 :: s59 :: s60 :: s61 :: s62 :: s63 :: s64 :: s65 :: s66 :: s67 :: s68 :: s69 :: s70 :: s71 :: s72 :: s73 :: s74 :: s75 :: s76 :: s77 :: s78 :: s79 :: s80 :: s81 :: s82 :: s83 :: s84 :: s85 :: s86 :: s87 :: s88 :: s89 :: s90 :: s91 :: s92 :: s93 :: s94 :: s95 :: s96 :: s97 :: s98 :: s99 :: s100 :: s101 :: s102 :: s103 :: s104 :: s105 :: s106 :: s107 :: s108 :: s109 :: s110 :: s111 :: s112 :: s113 :: s114 :: s115 :: s116 :: []).toArray, []⟩ W1 := by
  conv => arg 2; whnf
  refine wp_region_facts (by kernel_rfl) [[], [], [(1, some 31)], [], [(3, some 33)], [(0, some 30), (2, some 32), (4, some 34)], [(5, some 35)], [(5, some 35), (6, some 36)], [(7, some 37)], [(7, some 37), (8, some 38)], [(7, some 37), (9, some 39)], [(7, some 37), (10, some 40)], [(9, some 39), (11, some 41)], [(12, some 42)], [(12, some 42), (13, some 43)], [(12, some 42), (14, some 44)], [(12, some 42), (15, some 45)], [(14, some 44), (16, some 46)], [(17, some 47)], [(17, some 47)], [(17, some 47), (19, some 49)], [(17, some 47), (18, some 48), (20, some 50)], [(17, some 47), (21, some 51)], [(17, some 47), (22, some 52)], [(21, some 51), (23, some 53)], [(24, some 54)], [(24, some 54)], [(24, some 54), (26, some 56)], [(24, some 54), (25, some 55), (27, some 57)], [(24, some 54), (28, some 58)], [(24, some 54), (29, some 59)], [(28, some 58), (30, some 60)], [(31, some 61)], [(31, some 61)], [(31, some 61), (33, some 63)], [(31, some 61)], [(31, some 61), (35, some 65)], [(31, some 61), (36, some 66)], [(31, some 61), (32, some 62), (34, some 64), (37, some 67)], [(31, some 61), (38, some 68)], [(31, some 61), (39, some 69)]] [(0, some 30), (1, some 31), (2, some 32), (3, some 33), (4, some 34), (5, some 35), (6, some 36), (7, some 37), (8, some 38), (9, some 39), (10, some 40), (11, some 41), (12, some 42), (13, some 43), (14, some 44), (15, some 45), (16, some 46), (17, some 47), (18, some 48), (19, some 49), (20, some 50), (21, some 51), (22, some 52), (23, some 53), (24, some 54), (25, some 55), (26, some 56), (27, some 57), (28, some 58), (29, some 59), (30, some 60), (31, some 61), (32, some 62), (33, some 63), (34, some 64), (35, some 65), (36, some 66), (37, some 67), (38, some 68), (39, some 69), (40, some 70)] (by kernel_rfl) (by kernel_rfl) (by kernel_rfl) (Touch []) (Touch.refl []) (fun _ _ _ h h' => h.trans h' (fun i hi => .inl hi)) [Is (V), Is (Value.pointer (some ⟨A0, 1, none⟩)), Is (Value.int .i64 a), Is (Value.pointer (some ⟨A0, 2, none⟩)), Is (Value.int .i64 b), Is (Value.int .i64 1), Is (Value.bool false), Is (Value.bool false), Is (V), Is (Value.int .i64 1), Is (Value.bool false), Is (Value.bool false), Is (Value.bool false), Is (V), Is (Value.int .i64 1), Is (Value.bool false), Is (Value.bool false), Is (Value.bool false), Is (V), Is (Value.pointer (some ⟨A0, 1, none⟩)), Is (Value.int .i64 a), Is (Value.int .i64 1), Is (Value.bool false), Is (Value.bool false), Is (Value.bool false), Is (V), Is (Value.pointer (some ⟨A0, 1, none⟩)), Is (Value.int .i64 a), Is (Value.int .i64 1), Is (Value.bool false), Is (Value.bool false), Is (Value.bool false), Is (V), Is (Value.pointer (some ⟨A0, 1, none⟩)), Is (Value.int .i64 a), Is (Value.pointer (some ⟨A0, 3, none⟩)), Is (Value.int .u32 (n : Int)), Is (Value.agg (bc (fillB n)).toArray), Is (Value.int .i64 1), Is (Value.bool false), Is (Value.bool false)] rfl ⟨is_stab _ _, is_stab _ _, is_stab _ _, is_stab _ _, is_stab _ _, is_stab _ _, is_stab _ _, is_stab _ _, is_stab _ _, is_stab _ _, is_stab _ _, is_stab _ _, is_stab _ _, is_stab _ _, is_stab _ _, is_stab _ _, is_stab _ _, is_stab _ _, is_stab _ _, is_stab _ _, is_stab _ _, is_stab _ _, is_stab _ _, is_stab _ _, is_stab _ _, is_stab _ _, is_stab _ _, is_stab _ _, is_stab _ _, is_stab _ _, is_stab _ _, is_stab _ _, is_stab _ _, is_stab _ _, is_stab _ _, is_stab _ _, is_stab _ _, is_stab _ _, is_stab _ _, is_stab _ _, is_stab _ _, trivial⟩ ⟨?o0, ?o1, ?o2, ?o3, ?o4, ?o5, ?o6, ?o7, ?o8, ?o9, ?o10, ?o11, ?o12, ?o13, ?o14, ?o15, ?o16, ?o17, ?o18, ?o19, ?o20, ?o21, ?o22, ?o23, ?o24, ?o25, ?o26, ?o27, ?o28, ?o29, ?o30, ?o31, ?o32, ?o33, ?o34, ?o35, ?o36, ?o37, ?o38, ?o39, ?o40, trivial⟩ ?_
  case o0 =>
    intro vals wq hRq hpq
    simp only [List.getD_cons_zero, List.getD_cons_succ, canonP]
    simp only [Oper.gives]
    go_simp
    exact ⟨is_mk _ _, (Touch.refl []) _⟩
  case o1 =>
    intro vals wq hRq hpq
    simp only [List.getD_cons_zero, List.getD_cons_succ, canonP]
    simp only [Oper.gives]
    go_simp
    exact ⟨is_mk _ _, (Touch.refl []) _⟩
  case o2 =>
    intro vals wq hRq hpq
    simp only [factsP, List.getD_cons_zero, List.getD_cons_succ] at hpq
    have f1 := hpq.1
    replace hpq := hpq.2
    clear hpq
    replace f1 : vals 1 = _ := f1
    simp only [List.getD_cons_zero, List.getD_cons_succ, canonP, f1]
    clear f1
    have hcc : wq.cell? ⟨A0, 1, none⟩ = some (.int .i64 a) := (Touch.cell ((Touch.drew [] W1).trans hRq (by simp)) (a := ⟨A0, 1, none⟩) HC1.out.1 (by simp)).trans HC1.out.2
    simp only [Oper.gives]
    go_simp
    exact ⟨is_mk _ _, Touch.refl _ _⟩
  case o3 =>
    intro vals wq hRq hpq
    simp only [List.getD_cons_zero, List.getD_cons_succ, canonP]
    simp only [Oper.gives]
    go_simp
    exact ⟨is_mk _ _, (Touch.refl []) _⟩
  case o4 =>
    intro vals wq hRq hpq
    simp only [factsP, List.getD_cons_zero, List.getD_cons_succ] at hpq
    have f3 := hpq.1
    replace hpq := hpq.2
    clear hpq
    replace f3 : vals 3 = _ := f3
    simp only [List.getD_cons_zero, List.getD_cons_succ, canonP, f3]
    clear f3
    have hcc : wq.cell? ⟨A0, 2, none⟩ = some (.int .i64 b) := (Touch.cell ((Touch.drew [] W1).trans hRq (by simp)) (a := ⟨A0, 2, none⟩) HC2.out.1 (by simp)).trans HC2.out.2
    simp only [Oper.gives]
    go_simp
    exact ⟨is_mk _ _, Touch.refl _ _⟩
  case o5 =>
    intro vals wq hRq hpq
    simp only [factsP, List.getD_cons_zero, List.getD_cons_succ] at hpq
    have f0 := hpq.1
    replace hpq := hpq.2
    have f2 := hpq.1
    replace hpq := hpq.2
    have f4 := hpq.1
    replace hpq := hpq.2
    clear hpq
    replace f0 : vals 0 = _ := f0
    replace f2 : vals 2 = _ := f2
    replace f4 : vals 4 = _ := f4
    simp only [List.getD_cons_zero, List.getD_cons_succ, canonP, f0, f2, f4]
    clear f0 f2 f4
    simp only [Oper.gives]
    go_simp
    exact (begin_not ((HM.out.later ((Touch.drew [] W1).trans hRq (by simp))) _ (Touch.refl _ _)) a b).mono fun e w' ⟨he, hg⟩ => ⟨_, he, is_mk _ _, hg ▸ Touch.refl _ _⟩
  case o6 =>
    intro vals wq hRq hpq
    simp only [factsP, List.getD_cons_zero, List.getD_cons_succ] at hpq
    have f5 := hpq.1
    replace hpq := hpq.2
    clear hpq
    replace f5 : vals 5 = _ := f5
    simp only [List.getD_cons_zero, List.getD_cons_succ, canonP, f5]
    clear f5
    simp only [Oper.gives]
    go_simp
    exact ⟨is_mk _ _, (Touch.refl []) _⟩
  case o7 =>
    intro vals wq hRq hpq
    simp only [factsP, List.getD_cons_zero, List.getD_cons_succ] at hpq
    have f5 := hpq.1
    replace hpq := hpq.2
    have f6 := hpq.1
    replace hpq := hpq.2
    clear hpq
    replace f5 : vals 5 = _ := f5
    replace f6 : vals 6 = _ := f6
    simp only [List.getD_cons_zero, List.getD_cons_succ, canonP, f5, f6]
    clear f5 f6
    simp only [Oper.gives]
    go_simp
    exact ⟨is_mk _ _, (Touch.refl []) _⟩
  case o8 =>
    intro vals wq hRq hpq
    simp only [factsP, List.getD_cons_zero, List.getD_cons_succ] at hpq
    have f7 := hpq.1
    replace hpq := hpq.2
    clear hpq
    replace f7 : vals 7 = _ := f7
    simp only [List.getD_cons_zero, List.getD_cons_succ, canonP, f7]
    clear f7
    simp only [Oper.gives]
    go_simp
    exact ⟨is_mk _ _, (Touch.refl []) _⟩
  case o9 =>
    intro vals wq hRq hpq
    simp only [factsP, List.getD_cons_zero, List.getD_cons_succ] at hpq
    have f7 := hpq.1
    replace hpq := hpq.2
    have f8 := hpq.1
    replace hpq := hpq.2
    clear hpq
    replace f7 : vals 7 = _ := f7
    replace f8 : vals 8 = _ := f8
    simp only [List.getD_cons_zero, List.getD_cons_succ, canonP, f7, f8]
    clear f7 f8
    simp only [Oper.gives]
    go_simp
    exact (end_err (z := 1) (by decide) (handle_not ((HM.out.later ((Touch.drew [] W1).trans hRq (by simp))) _ (Touch.refl _ _)))).mono fun e w' ⟨he, hg⟩ => ⟨_, he, is_mk _ _, hg ▸ Touch.refl _ _⟩
  case o10 =>
    intro vals wq hRq hpq
    simp only [factsP, List.getD_cons_zero, List.getD_cons_succ] at hpq
    have f7 := hpq.1
    replace hpq := hpq.2
    have f9 := hpq.1
    replace hpq := hpq.2
    clear hpq
    replace f7 : vals 7 = _ := f7
    replace f9 : vals 9 = _ := f9
    simp only [List.getD_cons_zero, List.getD_cons_succ, canonP, f7, f9]
    clear f7 f9
    simp only [Oper.gives]
    go_simp
    exact ⟨is_mk _ _, (Touch.refl []) _⟩
  case o11 =>
    intro vals wq hRq hpq
    simp only [factsP, List.getD_cons_zero, List.getD_cons_succ] at hpq
    have f7 := hpq.1
    replace hpq := hpq.2
    have f10 := hpq.1
    replace hpq := hpq.2
    clear hpq
    replace f7 : vals 7 = _ := f7
    replace f10 : vals 10 = _ := f10
    simp only [List.getD_cons_zero, List.getD_cons_succ, canonP, f7, f10]
    clear f7 f10
    simp only [Oper.gives]
    go_simp
    exact ⟨is_mk _ _, (Touch.refl []) _⟩
  case o12 =>
    intro vals wq hRq hpq
    simp only [factsP, List.getD_cons_zero, List.getD_cons_succ] at hpq
    have f9 := hpq.1
    replace hpq := hpq.2
    have f11 := hpq.1
    replace hpq := hpq.2
    clear hpq
    replace f9 : vals 9 = _ := f9
    replace f11 : vals 11 = _ := f11
    simp only [List.getD_cons_zero, List.getD_cons_succ, canonP, f9, f11]
    clear f9 f11
    simp only [Oper.gives]
    go_simp
    exact ⟨is_mk _ _, (Touch.refl []) _⟩
  case o13 =>
    intro vals wq hRq hpq
    simp only [factsP, List.getD_cons_zero, List.getD_cons_succ] at hpq
    have f12 := hpq.1
    replace hpq := hpq.2
    clear hpq
    replace f12 : vals 12 = _ := f12
    simp only [List.getD_cons_zero, List.getD_cons_succ, canonP, f12]
    clear f12
    simp only [Oper.gives]
    go_simp
    exact ⟨is_mk _ _, (Touch.refl []) _⟩
  case o14 =>
    intro vals wq hRq hpq
    simp only [factsP, List.getD_cons_zero, List.getD_cons_succ] at hpq
    have f12 := hpq.1
    replace hpq := hpq.2
    have f13 := hpq.1
    replace hpq := hpq.2
    clear hpq
    replace f12 : vals 12 = _ := f12
    replace f13 : vals 13 = _ := f13
    simp only [List.getD_cons_zero, List.getD_cons_succ, canonP, f12, f13]
    clear f12 f13
    simp only [Oper.gives]
    go_simp
    exact (undo_err (z := 1) (by decide) (handle_not ((HM.out.later ((Touch.drew [] W1).trans hRq (by simp))) _ (Touch.refl _ _)))).mono fun e w' ⟨he, hg⟩ => ⟨_, he, is_mk _ _, hg ▸ Touch.refl _ _⟩
  case o15 =>
    intro vals wq hRq hpq
    simp only [factsP, List.getD_cons_zero, List.getD_cons_succ] at hpq
    have f12 := hpq.1
    replace hpq := hpq.2
    have f14 := hpq.1
    replace hpq := hpq.2
    clear hpq
    replace f12 : vals 12 = _ := f12
    replace f14 : vals 14 = _ := f14
    simp only [List.getD_cons_zero, List.getD_cons_succ, canonP, f12, f14]
    clear f12 f14
    simp only [Oper.gives]
    go_simp
    exact ⟨is_mk _ _, (Touch.refl []) _⟩
  case o16 =>
    intro vals wq hRq hpq
    simp only [factsP, List.getD_cons_zero, List.getD_cons_succ] at hpq
    have f12 := hpq.1
    replace hpq := hpq.2
    have f15 := hpq.1
    replace hpq := hpq.2
    clear hpq
    replace f12 : vals 12 = _ := f12
    replace f15 : vals 15 = _ := f15
    simp only [List.getD_cons_zero, List.getD_cons_succ, canonP, f12, f15]
    clear f12 f15
    simp only [Oper.gives]
    go_simp
    exact ⟨is_mk _ _, (Touch.refl []) _⟩
  case o17 =>
    intro vals wq hRq hpq
    simp only [factsP, List.getD_cons_zero, List.getD_cons_succ] at hpq
    have f14 := hpq.1
    replace hpq := hpq.2
    have f16 := hpq.1
    replace hpq := hpq.2
    clear hpq
    replace f14 : vals 14 = _ := f14
    replace f16 : vals 16 = _ := f16
    simp only [List.getD_cons_zero, List.getD_cons_succ, canonP, f14, f16]
    clear f14 f16
    simp only [Oper.gives]
    go_simp
    exact ⟨is_mk _ _, (Touch.refl []) _⟩
  case o18 =>
    intro vals wq hRq hpq
    simp only [factsP, List.getD_cons_zero, List.getD_cons_succ] at hpq
    have f17 := hpq.1
    replace hpq := hpq.2
    clear hpq
    replace f17 : vals 17 = _ := f17
    simp only [List.getD_cons_zero, List.getD_cons_succ, canonP, f17]
    clear f17
    simp only [Oper.gives]
    go_simp
    exact ⟨is_mk _ _, (Touch.refl []) _⟩
  case o19 =>
    intro vals wq hRq hpq
    simp only [factsP, List.getD_cons_zero, List.getD_cons_succ] at hpq
    have f17 := hpq.1
    replace hpq := hpq.2
    clear hpq
    replace f17 : vals 17 = _ := f17
    simp only [List.getD_cons_zero, List.getD_cons_succ, canonP, f17]
    clear f17
    simp only [Oper.gives]
    go_simp
    exact ⟨is_mk _ _, (Touch.refl []) _⟩
  case o20 =>
    intro vals wq hRq hpq
    simp only [factsP, List.getD_cons_zero, List.getD_cons_succ] at hpq
    have f17 := hpq.1
    replace hpq := hpq.2
    have f19 := hpq.1
    replace hpq := hpq.2
    clear hpq
    replace f17 : vals 17 = _ := f17
    replace f19 : vals 19 = _ := f19
    simp only [List.getD_cons_zero, List.getD_cons_succ, canonP, f17, f19]
    clear f17 f19
    have hcc : wq.cell? ⟨A0, 1, none⟩ = some (.int .i64 a) := (Touch.cell ((Touch.drew [] W1).trans hRq (by simp)) (a := ⟨A0, 1, none⟩) HC1.out.1 (by simp)).trans HC1.out.2
    simp only [Oper.gives]
    go_simp
    exact ⟨is_mk _ _, Touch.refl _ _⟩
  case o21 =>
    intro vals wq hRq hpq
    simp only [factsP, List.getD_cons_zero, List.getD_cons_succ] at hpq
    have f17 := hpq.1
    replace hpq := hpq.2
    have f18 := hpq.1
    replace hpq := hpq.2
    have f20 := hpq.1
    replace hpq := hpq.2
    clear hpq
    replace f17 : vals 17 = _ := f17
    replace f18 : vals 18 = _ := f18
    replace f20 : vals 20 = _ := f20
    simp only [List.getD_cons_zero, List.getD_cons_succ, canonP, f17, f18, f20]
    clear f17 f18 f20
    simp only [Oper.gives]
    go_simp
    exact (order_err (z := 1) (by decide) (NoMade.ask (HM.out.later ((Touch.drew [] W1).trans hRq (by simp))) a)).mono fun e w' ⟨he, hg⟩ => ⟨_, he, is_mk _ _, hg ▸ Touch.refl _ _⟩
  case o22 =>
    intro vals wq hRq hpq
    simp only [factsP, List.getD_cons_zero, List.getD_cons_succ] at hpq
    have f17 := hpq.1
    replace hpq := hpq.2
    have f21 := hpq.1
    replace hpq := hpq.2
    clear hpq
    replace f17 : vals 17 = _ := f17
    replace f21 : vals 21 = _ := f21
    simp only [List.getD_cons_zero, List.getD_cons_succ, canonP, f17, f21]
    clear f17 f21
    simp only [Oper.gives]
    go_simp
    exact ⟨is_mk _ _, (Touch.refl []) _⟩
  case o23 =>
    intro vals wq hRq hpq
    simp only [factsP, List.getD_cons_zero, List.getD_cons_succ] at hpq
    have f17 := hpq.1
    replace hpq := hpq.2
    have f22 := hpq.1
    replace hpq := hpq.2
    clear hpq
    replace f17 : vals 17 = _ := f17
    replace f22 : vals 22 = _ := f22
    simp only [List.getD_cons_zero, List.getD_cons_succ, canonP, f17, f22]
    clear f17 f22
    simp only [Oper.gives]
    go_simp
    exact ⟨is_mk _ _, (Touch.refl []) _⟩
  case o24 =>
    intro vals wq hRq hpq
    simp only [factsP, List.getD_cons_zero, List.getD_cons_succ] at hpq
    have f21 := hpq.1
    replace hpq := hpq.2
    have f23 := hpq.1
    replace hpq := hpq.2
    clear hpq
    replace f21 : vals 21 = _ := f21
    replace f23 : vals 23 = _ := f23
    simp only [List.getD_cons_zero, List.getD_cons_succ, canonP, f21, f23]
    clear f21 f23
    simp only [Oper.gives]
    go_simp
    exact ⟨is_mk _ _, (Touch.refl []) _⟩
  case o25 =>
    intro vals wq hRq hpq
    simp only [factsP, List.getD_cons_zero, List.getD_cons_succ] at hpq
    have f24 := hpq.1
    replace hpq := hpq.2
    clear hpq
    replace f24 : vals 24 = _ := f24
    simp only [List.getD_cons_zero, List.getD_cons_succ, canonP, f24]
    clear f24
    simp only [Oper.gives]
    go_simp
    exact ⟨is_mk _ _, (Touch.refl []) _⟩
  case o26 =>
    intro vals wq hRq hpq
    simp only [factsP, List.getD_cons_zero, List.getD_cons_succ] at hpq
    have f24 := hpq.1
    replace hpq := hpq.2
    clear hpq
    replace f24 : vals 24 = _ := f24
    simp only [List.getD_cons_zero, List.getD_cons_succ, canonP, f24]
    clear f24
    simp only [Oper.gives]
    go_simp
    exact ⟨is_mk _ _, (Touch.refl []) _⟩
  case o27 =>
    intro vals wq hRq hpq
    simp only [factsP, List.getD_cons_zero, List.getD_cons_succ] at hpq
    have f24 := hpq.1
    replace hpq := hpq.2
    have f26 := hpq.1
    replace hpq := hpq.2
    clear hpq
    replace f24 : vals 24 = _ := f24
    replace f26 : vals 26 = _ := f26
    simp only [List.getD_cons_zero, List.getD_cons_succ, canonP, f24, f26]
    clear f24 f26
    have hcc : wq.cell? ⟨A0, 1, none⟩ = some (.int .i64 a) := (Touch.cell ((Touch.drew [] W1).trans hRq (by simp)) (a := ⟨A0, 1, none⟩) HC1.out.1 (by simp)).trans HC1.out.2
    simp only [Oper.gives]
    go_simp
    exact ⟨is_mk _ _, Touch.refl _ _⟩
  case o28 =>
    intro vals wq hRq hpq
    simp only [factsP, List.getD_cons_zero, List.getD_cons_succ] at hpq
    have f24 := hpq.1
    replace hpq := hpq.2
    have f25 := hpq.1
    replace hpq := hpq.2
    have f27 := hpq.1
    replace hpq := hpq.2
    clear hpq
    replace f24 : vals 24 = _ := f24
    replace f25 : vals 25 = _ := f25
    replace f27 : vals 27 = _ := f27
    simp only [List.getD_cons_zero, List.getD_cons_succ, canonP, f24, f25, f27]
    clear f24 f25 f27
    simp only [Oper.gives]
    go_simp
    exact (forget_err (z := 1) (by decide) (NoMade.ask (HM.out.later ((Touch.drew [] W1).trans hRq (by simp))) a) true).mono fun e w' ⟨he, hg⟩ => ⟨_, he, is_mk _ _, hg ▸ Touch.refl _ _⟩
  case o29 =>
    intro vals wq hRq hpq
    simp only [factsP, List.getD_cons_zero, List.getD_cons_succ] at hpq
    have f24 := hpq.1
    replace hpq := hpq.2
    have f28 := hpq.1
    replace hpq := hpq.2
    clear hpq
    replace f24 : vals 24 = _ := f24
    replace f28 : vals 28 = _ := f28
    simp only [List.getD_cons_zero, List.getD_cons_succ, canonP, f24, f28]
    clear f24 f28
    simp only [Oper.gives]
    go_simp
    exact ⟨is_mk _ _, (Touch.refl []) _⟩
  case o30 =>
    intro vals wq hRq hpq
    simp only [factsP, List.getD_cons_zero, List.getD_cons_succ] at hpq
    have f24 := hpq.1
    replace hpq := hpq.2
    have f29 := hpq.1
    replace hpq := hpq.2
    clear hpq
    replace f24 : vals 24 = _ := f24
    replace f29 : vals 29 = _ := f29
    simp only [List.getD_cons_zero, List.getD_cons_succ, canonP, f24, f29]
    clear f24 f29
    simp only [Oper.gives]
    go_simp
    exact ⟨is_mk _ _, (Touch.refl []) _⟩
  case o31 =>
    intro vals wq hRq hpq
    simp only [factsP, List.getD_cons_zero, List.getD_cons_succ] at hpq
    have f28 := hpq.1
    replace hpq := hpq.2
    have f30 := hpq.1
    replace hpq := hpq.2
    clear hpq
    replace f28 : vals 28 = _ := f28
    replace f30 : vals 30 = _ := f30
    simp only [List.getD_cons_zero, List.getD_cons_succ, canonP, f28, f30]
    clear f28 f30
    simp only [Oper.gives]
    go_simp
    exact ⟨is_mk _ _, (Touch.refl []) _⟩
  case o32 =>
    intro vals wq hRq hpq
    simp only [factsP, List.getD_cons_zero, List.getD_cons_succ] at hpq
    have f31 := hpq.1
    replace hpq := hpq.2
    clear hpq
    replace f31 : vals 31 = _ := f31
    simp only [List.getD_cons_zero, List.getD_cons_succ, canonP, f31]
    clear f31
    simp only [Oper.gives]
    go_simp
    exact ⟨is_mk _ _, (Touch.refl []) _⟩
  case o33 =>
    intro vals wq hRq hpq
    simp only [factsP, List.getD_cons_zero, List.getD_cons_succ] at hpq
    have f31 := hpq.1
    replace hpq := hpq.2
    clear hpq
    replace f31 : vals 31 = _ := f31
    simp only [List.getD_cons_zero, List.getD_cons_succ, canonP, f31]
    clear f31
    simp only [Oper.gives]
    go_simp
    exact ⟨is_mk _ _, (Touch.refl []) _⟩
  case o34 =>
    intro vals wq hRq hpq
    simp only [factsP, List.getD_cons_zero, List.getD_cons_succ] at hpq
    have f31 := hpq.1
    replace hpq := hpq.2
    have f33 := hpq.1
    replace hpq := hpq.2
    clear hpq
    replace f31 : vals 31 = _ := f31
    replace f33 : vals 33 = _ := f33
    simp only [List.getD_cons_zero, List.getD_cons_succ, canonP, f31, f33]
    clear f31 f33
    have hcc : wq.cell? ⟨A0, 1, none⟩ = some (.int .i64 a) := (Touch.cell ((Touch.drew [] W1).trans hRq (by simp)) (a := ⟨A0, 1, none⟩) HC1.out.1 (by simp)).trans HC1.out.2
    simp only [Oper.gives]
    go_simp
    exact ⟨is_mk _ _, Touch.refl _ _⟩
  case o35 =>
    intro vals wq hRq hpq
    simp only [factsP, List.getD_cons_zero, List.getD_cons_succ] at hpq
    have f31 := hpq.1
    replace hpq := hpq.2
    clear hpq
    replace f31 : vals 31 = _ := f31
    simp only [List.getD_cons_zero, List.getD_cons_succ, canonP, f31]
    clear f31
    simp only [Oper.gives]
    go_simp
    exact ⟨is_mk _ _, (Touch.refl []) _⟩
  case o36 =>
    intro vals wq hRq hpq
    simp only [factsP, List.getD_cons_zero, List.getD_cons_succ] at hpq
    have f31 := hpq.1
    replace hpq := hpq.2
    have f35 := hpq.1
    replace hpq := hpq.2
    clear hpq
    replace f31 : vals 31 = _ := f31
    replace f35 : vals 35 = _ := f35
    simp only [List.getD_cons_zero, List.getD_cons_succ, canonP, f31, f35]
    clear f31 f35
    have hcc : wq.cell? ⟨A0, 3, none⟩ = some (.int .u32 (n : Int)) := (Touch.cell ((Touch.drew [] W1).trans hRq (by simp)) (a := ⟨A0, 3, none⟩) HC3.out.1 (by simp)).trans HC3.out.2
    simp only [Oper.gives]
    go_simp
    exact ⟨is_mk _ _, Touch.refl _ _⟩
  case o37 =>
    intro vals wq hRq hpq
    simp only [factsP, List.getD_cons_zero, List.getD_cons_succ] at hpq
    have f31 := hpq.1
    replace hpq := hpq.2
    have f36 := hpq.1
    replace hpq := hpq.2
    clear hpq
    replace f31 : vals 31 = _ := f31
    replace f36 : vals 36 = _ := f36
    simp only [List.getD_cons_zero, List.getD_cons_succ, canonP, f31, f36]
    clear f31 f36
    simp only [Oper.gives]
    go_simp
    exact (fill_any n hn wq).mono fun e w' ⟨he, hg⟩ => ⟨_, he, is_mk _ _, Touch.of_below hg⟩
  case o38 =>
    intro vals wq hRq hpq
    simp only [factsP, List.getD_cons_zero, List.getD_cons_succ] at hpq
    have f31 := hpq.1
    replace hpq := hpq.2
    have f32 := hpq.1
    replace hpq := hpq.2
    have f34 := hpq.1
    replace hpq := hpq.2
    have f37 := hpq.1
    replace hpq := hpq.2
    clear hpq
    replace f31 : vals 31 = _ := f31
    replace f32 : vals 32 = _ := f32
    replace f34 : vals 34 = _ := f34
    replace f37 : vals 37 = _ := f37
    simp only [List.getD_cons_zero, List.getD_cons_succ, canonP, f31, f32, f34, f37]
    clear f31 f32 f34 f37
    have hX := fillB_length n
    generalize fillB n = X at *
    simp only [Oper.gives]
    go_simp
    exact (put_err (z := 1) (by decide) (fun W hW => NoMade.ask ((HM.out.later ((Touch.drew [] W1).trans hRq (by simp))).later hW) a) hX).mono fun e w' ⟨he, hg⟩ => ⟨_, he, is_mk _ _, hg⟩
  case o39 =>
    intro vals wq hRq hpq
    simp only [factsP, List.getD_cons_zero, List.getD_cons_succ] at hpq
    have f31 := hpq.1
    replace hpq := hpq.2
    have f38 := hpq.1
    replace hpq := hpq.2
    clear hpq
    replace f31 : vals 31 = _ := f31
    replace f38 : vals 38 = _ := f38
    simp only [List.getD_cons_zero, List.getD_cons_succ, canonP, f31, f38]
    clear f31 f38
    simp only [Oper.gives]
    go_simp
    exact ⟨is_mk _ _, (Touch.refl []) _⟩
  case o40 =>
    intro vals wq hRq hpq
    simp only [factsP, List.getD_cons_zero, List.getD_cons_succ] at hpq
    have f31 := hpq.1
    replace hpq := hpq.2
    have f39 := hpq.1
    replace hpq := hpq.2
    clear hpq
    replace f31 : vals 31 = _ := f31
    replace f39 : vals 39 = _ := f39
    simp only [List.getD_cons_zero, List.getD_cons_succ, canonP, f31, f39]
    clear f31 f39
    simp only [Oper.gives]
    go_simp
    exact ⟨is_mk _ _, (Touch.refl []) _⟩
  intro vals wz hRwz hfwz
  simp only [AllFacts] at hfwz
  have g0 := hfwz.1
  replace hfwz := hfwz.2
  have g1 := hfwz.1
  replace hfwz := hfwz.2
  have g2 := hfwz.1
  replace hfwz := hfwz.2
  have g3 := hfwz.1
  replace hfwz := hfwz.2
  have g4 := hfwz.1
  replace hfwz := hfwz.2
  have g5 := hfwz.1
  replace hfwz := hfwz.2
  have g6 := hfwz.1
  replace hfwz := hfwz.2
  have g7 := hfwz.1
  replace hfwz := hfwz.2
  have g8 := hfwz.1
  replace hfwz := hfwz.2
  have g9 := hfwz.1
  replace hfwz := hfwz.2
  have g10 := hfwz.1
  replace hfwz := hfwz.2
  have g11 := hfwz.1
  replace hfwz := hfwz.2
  have g12 := hfwz.1
  replace hfwz := hfwz.2
  have g13 := hfwz.1
  replace hfwz := hfwz.2
  have g14 := hfwz.1
  replace hfwz := hfwz.2
  have g15 := hfwz.1
  replace hfwz := hfwz.2
  have g16 := hfwz.1
  replace hfwz := hfwz.2
  have g17 := hfwz.1
  replace hfwz := hfwz.2
  have g18 := hfwz.1
  replace hfwz := hfwz.2
  have g19 := hfwz.1
  replace hfwz := hfwz.2
  have g20 := hfwz.1
  replace hfwz := hfwz.2
  have g21 := hfwz.1
  replace hfwz := hfwz.2
  have g22 := hfwz.1
  replace hfwz := hfwz.2
  have g23 := hfwz.1
  replace hfwz := hfwz.2
  have g24 := hfwz.1
  replace hfwz := hfwz.2
  have g25 := hfwz.1
  replace hfwz := hfwz.2
  have g26 := hfwz.1
  replace hfwz := hfwz.2
  have g27 := hfwz.1
  replace hfwz := hfwz.2
  have g28 := hfwz.1
  replace hfwz := hfwz.2
  have g29 := hfwz.1
  replace hfwz := hfwz.2
  have g30 := hfwz.1
  replace hfwz := hfwz.2
  have g31 := hfwz.1
  replace hfwz := hfwz.2
  have g32 := hfwz.1
  replace hfwz := hfwz.2
  have g33 := hfwz.1
  replace hfwz := hfwz.2
  have g34 := hfwz.1
  replace hfwz := hfwz.2
  have g35 := hfwz.1
  replace hfwz := hfwz.2
  have g36 := hfwz.1
  replace hfwz := hfwz.2
  have g37 := hfwz.1
  replace hfwz := hfwz.2
  have g38 := hfwz.1
  replace hfwz := hfwz.2
  have g39 := hfwz.1
  replace hfwz := hfwz.2
  have g40 := hfwz.1
  replace hfwz := hfwz.2
  clear hfwz
  replace g0 : vals 0 = _ := g0
  replace g1 : vals 1 = _ := g1
  replace g2 : vals 2 = _ := g2
  replace g3 : vals 3 = _ := g3
  replace g4 : vals 4 = _ := g4
  replace g5 : vals 5 = _ := g5
  replace g6 : vals 6 = _ := g6
  replace g7 : vals 7 = _ := g7
  replace g8 : vals 8 = _ := g8
  replace g9 : vals 9 = _ := g9
  replace g10 : vals 10 = _ := g10
  replace g11 : vals 11 = _ := g11
  replace g12 : vals 12 = _ := g12
  replace g13 : vals 13 = _ := g13
  replace g14 : vals 14 = _ := g14
  replace g15 : vals 15 = _ := g15
  replace g16 : vals 16 = _ := g16
  replace g17 : vals 17 = _ := g17
  replace g18 : vals 18 = _ := g18
  replace g19 : vals 19 = _ := g19
  replace g20 : vals 20 = _ := g20
  replace g21 : vals 21 = _ := g21
  replace g22 : vals 22 = _ := g22
  replace g23 : vals 23 = _ := g23
  replace g24 : vals 24 = _ := g24
  replace g25 : vals 25 = _ := g25
  replace g26 : vals 26 = _ := g26
  replace g27 : vals 27 = _ := g27
  replace g28 : vals 28 = _ := g28
  replace g29 : vals 29 = _ := g29
  replace g30 : vals 30 = _ := g30
  replace g31 : vals 31 = _ := g31
  replace g32 : vals 32 = _ := g32
  replace g33 : vals 33 = _ := g33
  replace g34 : vals 34 = _ := g34
  replace g35 : vals 35 = _ := g35
  replace g36 : vals 36 = _ := g36
  replace g37 : vals 37 = _ := g37
  replace g38 : vals 38 = _ := g38
  replace g39 : vals 39 = _ := g39
  replace g40 : vals 40 = _ := g40
  simp only [canonP, Act.put, List.setIfInBounds_toArray, List.set_cons_succ, List.set_cons_zero, g0, g1, g2, g3, g4, g5, g6, g7, g8, g9, g10, g11, g12, g13, g14, g15, g16, g17, g18, g19, g20, g21, g22, g23, g24, g25, g26, g27, g28, g29, g30, g31, g32, g33, g34, g35, g36, g37, g38, g39, g40]
  clear g0 g1 g2 g3 g4 g5 g6 g7 g8 g9 g10 g11 g12 g13 g14 g15 g16 g17 g18 g19 g20 g21 g22 g23 g24 g25 g26 g27 g28 g29 g30 g31 g32 g33 g34 g35 g36 g37 g38 g39 g40
  exact HK.out _ _ _ _ _ _ _ _ _ _ _ _ _ _ _ _ _ _ _ _ _ _ _ _ _ _ _ _ _ _ _ _ _ _ _ _ _ _ _ _ _ ((Touch.drew [] W1).trans hRwz (by simp))
#print axioms nil_reg8
end Go.Proofs.Ytnogajnoghjmhaa
