/- Two calls of one act at two transactions: the region that draws their order, over letters. -/
import Derived.Test.YtnogajnoghjmhaaT21
import Derived.Test.YtnogajnoghjmhaaRegionN
set_option linter.unusedVariables false
set_option linter.unusedSimpArgs false
namespace Go.Proofs.Ytnogajnoghjmhaa
open Go.RowKit Go.Maps

def RB (n : Nat) (a b : World) : Prop := Below n a b
theorem RB.refl (n : Nat) (w : World) : RB n w w := Below.refl n w
theorem RB.trans {n : Nat} {a b c : World} (h : RB n a b) (h' : RB n b c) : RB n a c := Below.trans h h'
theorem PIs.tabm {w : World} {a a' : PA} {N N' seq seq' : Nat} {s s' : PS} (h : PIs w a N seq s) (h' : PIs w a' N' seq' s') (hB : a.B = a'.B) : a.m = a'.m := by
  obtain ⟨m, t, _⟩ := h.rv.tab
  obtain ⟨m', t', _⟩ := h'.rv.tab
  have e := t.obj.symm.trans (hB ▸ t'.obj)
  simpa using e
theorem PA.eq_of {a a' : PA} (h0 : a.c = a'.c) (h1 : a.o = a'.o) (h2 : a.f = a'.f) (h3 : a.B = a'.B) (h4 : a.m = a'.m) : a = a' := by
  cases a; cases a'; simp_all
theorem TIs.unique {w : World} {B M N seq : Nat} {ia ib : List Nat} {ta tb : TS} (h : TIs w B M seq ia ta) (h' : TIs w B N seq ib tb) : ia = ib := by
  cases ta with
  | c s =>
    obtain ⟨a, rfl, h⟩ := h
    cases tb with
    | c s' =>
      obtain ⟨a', rfl, h'⟩ := h'
      have e := h.obj.symm.trans h'.obj
      simp [cellsC] at e
      obtain ⟨e0, e1, e2, e3⟩ := e
      rw [PA.eq_of e0 e1 e2 e3 (h.p.tabm h'.p e3)]
    | o s' q' cr rv did =>
      obtain ⟨a', tb, o, rfl, h', _⟩ := h'
      have e := h.obj.symm.trans h'.obj
      simp [cellsC, cellsO] at e
  | o s q cr rv did =>
    obtain ⟨a, tm, o, rfl, h, _⟩ := h
    cases tb with
    | c s' =>
      obtain ⟨a', rfl, h'⟩ := h'
      have e := h.obj.symm.trans h'.obj
      simp [cellsC, cellsO] at e
    | o s' q' cr' rv' did' =>
      obtain ⟨a', tb', o', rfl, h', _⟩ := h'
      have e := h.obj.symm.trans h'.obj
      simp [cellsO] at e
      obtain ⟨e0, e1, e2, e3, _, _, e4, e5, e6, e7, e8⟩ := e
      rw [PA.eq_of e0 e1 e2 e3 (h.p.tabm h'.p e3), PA.eq_of e5 e6 e7 e8 (h.q.tabm h'.q e8), e4]
/-- what is known of each alone comes together -/
theorem Two.meet {w0 : World} {A B M N M' N' seq : Nat} {ta tb u u' : TS} {w : World} (h : Two w0 A B M N' seq ta u w) (h' : Two w0 A B M' N seq u' tb w) : Two w0 A B M N seq ta tb w := by
  obtain ⟨ia, ib, h1, h2, h3, h4⟩ := h.ex
  obtain ⟨ia', ib', k1, k2, k3, k4⟩ := h'.ex
  have e := h1.unique k1
  subst e
  exact ⟨⟨ia, ib', h1, k2, k3, k4⟩, h.grow⟩
theorem ActsIn.at_ {w : World} {v : Value} {l : List AP} (h : ActsIn w v l) {i : Nat} {p : AP} (hp : l[i]? = some p) : ∃ y cap, v = .slice (some y) l.length cap ∧ y.block < w.heap.size ∧ ActAt w (y.add (i * 4)) p := by
  obtain ⟨a, cap, hv, h⟩ := h
  obtain ⟨y, rfl, h1, h2⟩ := h i p hp
  exact ⟨y, cap, hv, h1, h2⟩
theorem ActAt.grow {w w' : World} {x : Addr} {p : AP} (h : ActAt w x p) (hx : x.block < w.heap.size) {n : Nat} (hn : x.block < n) (hg : Below n w w') : ActAt w' x p := by
  obtain ⟨c0, c1, c2, c3, h3⟩ := h
  exact ⟨(hg.cell hn).trans c0, (hg.cell (by rw [add_block]; exact hn)).trans c1, (hg.cell (by rw [add_block]; exact hn)).trans c2, (hg.cell (by rw [add_block]; exact hn)).trans c3, h3⟩
noncomputable def undone_reg24Code : Code := regById 24 (codesOf (Try.f6.body.getD .skip))
set_option maxRecDepth 100000 in
set_option maxHeartbeats 4000000 in
theorem undone_reg24 (n0 A B MM NN seq i n c3 : Nat) (z : Int) (t r : TS) (x : AP) (y : Addr) (w0 W1 : World) (HT : Hid (Two w0 A B MM NN seq t t W1)) (HR : Hid (doT t x = (z, r))) (hM : MM ≤ 100000) (hN : NN ≤ 100000) (hs : seq < 4294967296) (HX : Hid x.ok) (HB0 : Hid ((0 : Int) ≤ (i : Int))) (HB1 : Hid ((i : Int) < (n : Int))) (HAC : Hid (ActAt W1 (y.add (i * 4)) x)) (HY : Hid ((y.add (i * 4)).block < W1.heap.size ∧ (y.add (i * 4)).block < n0)) (hn0 : Hid (n0 = w0.heap.size))
    (s0 s1 s2 s4 s5 s6 s7 s8 s9 s10 s11 s12 s15 s16 s17 s19 s20 s21 s22 s23 s24 s25 s26 s27 s28 s29 s30 s31 s32 s33 s34 s35 s36 s37 s38 s39 s40 s41 s42 s43 s44 s45 s46 s47 s48 s49 s50 s51 s52 s53 s54 s55 s56 s57 s58 s59 s60 s61 s62 s63 s64 s65 s66 s67 s68 s69 s70 s71 s72 s73 s74 s75 s76 s77 s78 s79 s80 s81 s82 s83 s84 s85 s86 s87 s88 s89 s90 s91 s92 s93 s94 s95 s96 s97 s98 s99 s100 s101 s102 s103 s104 s105 s106 s107 s108 s109 s110 s111 s112 s113 s114 : Value) (Q : Exit → Act → World → Prop) (HK : Hid (∀ u96 u97 u98 u99 u100 u101 u102 u103 u104 u105 u106 u107 wz, Two w0 A B (MM + 1) (NN + 1) seq r r wz → Q .normal ⟨(s0 :: s1 :: s2 :: .slice (some y) n c3 :: s4 :: s5 :: s6 :: s7 :: s8 :: s9 :: s10 :: s11 :: s12 :: .pointer (some ⟨A, 0, none⟩) :: .pointer (some ⟨B, 0, none⟩) :: s15 :: s16 :: s17 :: .int .i64 (i : Int) :: s19 :: s20 :: s21 :: s22 :: s23 :: s24 :: s25 :: s26 :: s27 :: s28 :: s29 :: s30 :: s31 :: s32 :: s33 :: s34 :: s35 :: s36 :: s37 :: s38 :: s39 :: s40 :: s41 :: s42 :: s43 :: s44 :: s45 :: s46 :: s47 :: s48 :: s49 :: s50 :: s51 :: s52 :: s53 :: s54 :: s55 :: s56 :: s57 :: s58 :: s59 :: s60 :: s61 :: s62 :: s63 :: s64 :: s65 :: s66 :: s67 :: s68 :: s69 :: s70 :: s71 :: s72 :: s73 :: s74 :: s75 :: s76 :: s77 :: s78 :: s79 :: s80 :: s81 :: s82 :: s83 :: s84 :: s85 :: s86 :: s87 :: s88 :: s89 :: s90 :: s91 :: s92 :: s93 :: s94 :: s95 :: u96 :: u97 :: u98 :: u99 :: u100 :: u101 :: u102 :: u103 :: u104 :: u105 :: u106 :: u107 :: .bool false :: s109 :: s110 :: s111 :: s112 :: s113 :: s114 :: []).toArray, []⟩ wz)) : undone_reg24Code.wp Try.prog Q ⟨(s0 :: s1 :: s2 :: .slice (some y) n c3 :: s4 :: s5 :: s6 :: s7 :: s8 :: s9 :: s10 :: s11 :: s12 :: .pointer (some ⟨A, 0, none⟩) :: .pointer (some ⟨B, 0, none⟩) :: s15 :: s16 :: s17 :: .int .i64 (i : Int) :: s19 :: s20 :: s21 :: s22 :: s23 :: s24 :: s25 :: s26 :: s27 :: s28 :: s29 :: s30 :: s31 :: s32 :: s33 :: s34 :: s35 :: s36 :: s37 :: s38 :: s39 :: s40 :: s41 :: s42 :: s43 :: s44 :: s45 :: s46 :: s47 :: s48 :: s49 :: s50 :: s51 :: s52 :: s53 :: s54 :: s55 :: s56 :: s57 :: s58 :: s59 :: s60 :: s61 :: s62 :: s63 :: s64 :: s65 :: s66 :: s67 :: s68 :: s69 :: s70 :: s71 :: s72 :: s73 :: s74 :: s75 :: s76 :: s77 :: s78 :: s79 :: s80 :: s81 :: s82 :: s83 :: s84 :: s85 :: s86 :: s87 :: s88 :: s89 :: s90 :: s91 :: s92 :: s93 :: s94 :: s95 :: s96 :: s97 :: s98 :: s99 :: s100 :: s101 :: s102 :: s103 :: s104 :: s105 :: s106 :: s107 :: s108 :: s109 :: s110 :: s111 :: s112 :: s113 :: s114 :: []).toArray, []⟩ W1 := by
  have HN0 := Lib.hid (show ∀ p ∈ ([(5, fun wx => Two w0 A B MM NN seq t t wx), (11, fun wx => ∃ u m, Two w0 A B m NN seq u t wx)] : List (Nat × (World → Prop))), p.2 W1.drew from fun p hp => by
    have hT := HT.out.later (Grow.drew W1)
    simp only [List.mem_cons, List.not_mem_nil, or_false] at hp
    rcases hp with rfl | rfl
    · exact hT
    · exact ⟨_, _, hT⟩)
  conv => arg 2; whnf
  refine wp_region_factsN [5, 11] [(5, fun wx => Two w0 A B MM NN seq t t wx), (11, fun wx => ∃ u m, Two w0 A B m NN seq u t wx)] (by kernel_rfl) [[], [], [], [(1, some 97), (2, some 98)], [(3, some 99)], [(0, some 96), (4, some 100)], [], [], [], [(7, some 103), (8, some 104)], [(9, some 105)], [(5, some 101), (6, some 102), (10, some 106)], [(5, some 101), (11, some 107)]] [(0, some 96), (1, some 97), (2, some 98), (3, some 99), (4, some 100), (5, some 101), (6, some 102), (7, some 103), (8, some 104), (9, some 105), (10, some 106), (11, some 107), (12, some 108)] (by kernel_rfl) (by kernel_rfl) (by kernel_rfl) (RB n0) (RB.refl n0) (fun _ _ _ h h' => RB.trans h h') [Is (Value.pointer (some ⟨A, 0, none⟩)), Is (Value.slice (some y) n c3), Is (Value.int .i64 (i : Int)), Is (Value.pointer (some (y.add (i * 4)))), Is (Value.agg #[.int .u8 (x.k : Int), .int .i64 x.at_, .int .i64 x.more, .int .u32 (x.fill : Int)]), (fun v wx => v = .int .i64 z ∧ ∃ u n, Two w0 A B (MM + 1) n seq r u wx), Is (Value.pointer (some ⟨B, 0, none⟩)), Is (Value.slice (some y) n c3), Is (Value.int .i64 (i : Int)), Is (Value.pointer (some (y.add (i * 4)))), Is (Value.agg #[.int .u8 (x.k : Int), .int .i64 x.at_, .int .i64 x.more, .int .u32 (x.fill : Int)]), (fun v wx => v = .int .i64 z ∧ Two w0 A B (MM + 1) (NN + 1) seq r r wx), Is (Value.bool false)] rfl ⟨.inr (is_stab _ _), .inr (is_stab _ _), .inr (is_stab _ _), .inr (is_stab _ _), .inr (is_stab _ _), .inl (by simp), .inr (is_stab _ _), .inr (is_stab _ _), .inr (is_stab _ _), .inr (is_stab _ _), .inr (is_stab _ _), .inl (by simp), .inr (is_stab _ _), trivial⟩ HN0.out ⟨?o0, ?o1, ?o2, ?o3, ?o4, ?o5, ?o6, ?o7, ?o8, ?o9, ?o10, ?o11, ?o12, trivial⟩ ?_
  case o0 =>
    intro vals wq hRq hNq hpq
    simp only [List.getD_cons_zero, List.getD_cons_succ, canonP]
    simp only [Oper.gives]
    go_simp
    first | exact ⟨is_mk _ _, (RB.refl n0) _⟩ | exact ⟨is_mk _ _, (RB.refl n0) _, (fun _ _ _ _ h => h), (fun _ _ _ _ _ h => h)⟩
  case o1 =>
    intro vals wq hRq hNq hpq
    simp only [List.getD_cons_zero, List.getD_cons_succ, canonP]
    simp only [Oper.gives]
    go_simp
    first | exact ⟨is_mk _ _, (RB.refl n0) _⟩ | exact ⟨is_mk _ _, (RB.refl n0) _, (fun _ _ _ _ h => h), (fun _ _ _ _ _ h => h)⟩
  case o2 =>
    intro vals wq hRq hNq hpq
    simp only [List.getD_cons_zero, List.getD_cons_succ, canonP]
    simp only [Oper.gives]
    go_simp
    first | exact ⟨is_mk _ _, (RB.refl n0) _⟩ | exact ⟨is_mk _ _, (RB.refl n0) _, (fun _ _ _ _ h => h), (fun _ _ _ _ _ h => h)⟩
  case o3 =>
    intro vals wq hRq hNq hpq
    simp only [factsP, List.getD_cons_zero, List.getD_cons_succ] at hpq
    have f1 := hpq.1
    replace hpq := hpq.2
    have f2 := hpq.1
    replace hpq := hpq.2
    clear hpq
    replace f1 : vals 1 = _ := f1
    replace f2 : vals 2 = _ := f2
    simp only [List.getD_cons_zero, List.getD_cons_succ, canonP, f1, f2]
    clear f1 f2
    have b0 := HB0.out
    have b1 := HB1.out
    simp only [Oper.gives]
    go_simp
    first | exact ⟨is_mk _ _, (RB.refl n0) _⟩ | exact ⟨is_mk _ _, (RB.refl n0) _, (fun _ _ _ _ h => h), (fun _ _ _ _ _ h => h)⟩
  case o4 =>
    intro vals wq hRq hNq hpq
    simp only [factsP, List.getD_cons_zero, List.getD_cons_succ] at hpq
    have f3 := hpq.1
    replace hpq := hpq.2
    clear hpq
    replace f3 : vals 3 = _ := f3
    simp only [List.getD_cons_zero, List.getD_cons_succ, canonP, f3]
    clear f3
    have hc := HAC.out.grow HY.out.1 HY.out.2 (Below.trans (Below.refl n0 W1).drew hRq)
    have k0 : wq.cell? (y.add (i * 4)) = some (.int .u8 (x.k : Int)) := hc.1
    have k1 : wq.cell? { block := (y.add (i * 4)).block, off := (y.add (i * 4)).off + 1 } = some (.int .i64 x.at_) := hc.2.1
    have k2 : wq.cell? { block := (y.add (i * 4)).block, off := (y.add (i * 4)).off + 2 } = some (.int .i64 x.more) := hc.2.2.1
    have k3 : wq.cell? { block := (y.add (i * 4)).block, off := (y.add (i * 4)).off + 3 } = some (.int .u32 (x.fill : Int)) := hc.2.2.2.1
    simp only [Oper.gives]
    go_simp
    first | exact ⟨is_mk _ _, (RB.refl n0) _⟩ | exact ⟨is_mk _ _, (RB.refl n0) _, (fun _ _ _ _ h => h), (fun _ _ _ _ _ h => h)⟩
  case o5 =>
    intro vals wq hRq hNq hpq
    simp only [factsP, List.getD_cons_zero, List.getD_cons_succ] at hpq
    have f0 := hpq.1
    replace hpq := hpq.2
    have f4 := hpq.1
    replace hpq := hpq.2
    clear hpq
    replace f0 : vals 0 = _ := f0
    replace f4 : vals 4 = _ := f4
    simp only [List.getD_cons_zero, List.getD_cons_succ, canonP, f0, f4]
    clear f0 f4
    have hT : Two w0 A B MM NN seq t t wq := hNq (5, fun wx => Two w0 A B MM NN seq t t wx) (List.Mem.head _) rfl
    simp only [Oper.gives]
    go_simp
    refine (hT.do_ hM hs HX.out).mono ?_
    intro e w' hp
    unfold TwoPost at hp
    rw [HR.out] at hp
    obtain ⟨rfl, h2, h3⟩ := hp
    exact ⟨_, rfl, ⟨rfl, _, _, h2⟩, by rw [hn0.out]; exact h3, fun _ _ _ => ⟨_, _, h2⟩⟩
  case o6 =>
    intro vals wq hRq hNq hpq
    simp only [List.getD_cons_zero, List.getD_cons_succ, canonP]
    simp only [Oper.gives]
    go_simp
    first | exact ⟨is_mk _ _, (RB.refl n0) _⟩ | exact ⟨is_mk _ _, (RB.refl n0) _, (fun _ _ _ _ h => h), (fun _ _ _ _ _ h => h)⟩
  case o7 =>
    intro vals wq hRq hNq hpq
    simp only [List.getD_cons_zero, List.getD_cons_succ, canonP]
    simp only [Oper.gives]
    go_simp
    first | exact ⟨is_mk _ _, (RB.refl n0) _⟩ | exact ⟨is_mk _ _, (RB.refl n0) _, (fun _ _ _ _ h => h), (fun _ _ _ _ _ h => h)⟩
  case o8 =>
    intro vals wq hRq hNq hpq
    simp only [List.getD_cons_zero, List.getD_cons_succ, canonP]
    simp only [Oper.gives]
    go_simp
    first | exact ⟨is_mk _ _, (RB.refl n0) _⟩ | exact ⟨is_mk _ _, (RB.refl n0) _, (fun _ _ _ _ h => h), (fun _ _ _ _ _ h => h)⟩
  case o9 =>
    intro vals wq hRq hNq hpq
    simp only [factsP, List.getD_cons_zero, List.getD_cons_succ] at hpq
    have f7 := hpq.1
    replace hpq := hpq.2
    have f8 := hpq.1
    replace hpq := hpq.2
    clear hpq
    replace f7 : vals 7 = _ := f7
    replace f8 : vals 8 = _ := f8
    simp only [List.getD_cons_zero, List.getD_cons_succ, canonP, f7, f8]
    clear f7 f8
    have b0 := HB0.out
    have b1 := HB1.out
    simp only [Oper.gives]
    go_simp
    first | exact ⟨is_mk _ _, (RB.refl n0) _⟩ | exact ⟨is_mk _ _, (RB.refl n0) _, (fun _ _ _ _ h => h), (fun _ _ _ _ _ h => h)⟩
  case o10 =>
    intro vals wq hRq hNq hpq
    simp only [factsP, List.getD_cons_zero, List.getD_cons_succ] at hpq
    have f9 := hpq.1
    replace hpq := hpq.2
    clear hpq
    replace f9 : vals 9 = _ := f9
    simp only [List.getD_cons_zero, List.getD_cons_succ, canonP, f9]
    clear f9
    have hc := HAC.out.grow HY.out.1 HY.out.2 (Below.trans (Below.refl n0 W1).drew hRq)
    have k0 : wq.cell? (y.add (i * 4)) = some (.int .u8 (x.k : Int)) := hc.1
    have k1 : wq.cell? { block := (y.add (i * 4)).block, off := (y.add (i * 4)).off + 1 } = some (.int .i64 x.at_) := hc.2.1
    have k2 : wq.cell? { block := (y.add (i * 4)).block, off := (y.add (i * 4)).off + 2 } = some (.int .i64 x.more) := hc.2.2.1
    have k3 : wq.cell? { block := (y.add (i * 4)).block, off := (y.add (i * 4)).off + 3 } = some (.int .u32 (x.fill : Int)) := hc.2.2.2.1
    simp only [Oper.gives]
    go_simp
    first | exact ⟨is_mk _ _, (RB.refl n0) _⟩ | exact ⟨is_mk _ _, (RB.refl n0) _, (fun _ _ _ _ h => h), (fun _ _ _ _ _ h => h)⟩
  case o11 =>
    intro vals wq hRq hNq hpq
    simp only [factsP, List.getD_cons_zero, List.getD_cons_succ] at hpq
    have f5 := hpq.1
    replace hpq := hpq.2
    have f6 := hpq.1
    replace hpq := hpq.2
    have f10 := hpq.1
    replace hpq := hpq.2
    clear hpq
    replace f6 : vals 6 = _ := f6
    replace f10 : vals 10 = _ := f10
    simp only [List.getD_cons_zero, List.getD_cons_succ, canonP, f6, f10]
    clear f6 f10
    have hT' : ∃ u m, Two w0 A B m NN seq u t wq := hNq (11, fun wx => ∃ u m, Two w0 A B m NN seq u t wx) (.tail _ (List.Mem.head _)) rfl
    obtain ⟨u', m, hT'⟩ := hT'
    obtain ⟨hv5, u, n, hT5⟩ := f5
    have hT := (hT5.meet hT').swap
    simp only [Oper.gives]
    go_simp
    refine (hT.do_ hN hs HX.out).mono ?_
    intro e w' hp
    unfold TwoPost at hp
    rw [HR.out] at hp
    obtain ⟨rfl, h2, h3⟩ := hp
    exact ⟨_, rfl, ⟨rfl, h2.swap⟩, by rw [hn0.out]; exact h3, fun _ _ _ => ⟨_, _, h2.swap⟩⟩
  case o12 =>
    intro vals wq hRq hNq hpq
    simp only [factsP, List.getD_cons_zero, List.getD_cons_succ] at hpq
    have f5 := hpq.1
    replace hpq := hpq.2
    have f11 := hpq.1
    replace hpq := hpq.2
    clear hpq
    simp only [List.getD_cons_zero, List.getD_cons_succ, canonP]
    simp only [Oper.gives]
    go_simp
    first | exact ⟨is_mk _ _, (RB.refl n0) _⟩ | exact ⟨is_mk _ _, (RB.refl n0) _, (fun _ _ _ _ h => h), (fun _ _ _ _ _ h => h)⟩
  intro vals wz hRwz hfwz
  simp only [AllFacts] at hfwz
  have g0 := hfwz.1
  replace hfwz := hfwz.2
  have g1 := hfwz.1
  replace hfwz := hfwz.2
  have g2 := hfwz.1
  replace hfwz := hfwz.2
  have g3 := hfwz.1
  replace hfwz := hfwz.2
  have g4 := hfwz.1
  replace hfwz := hfwz.2
  have g5 := hfwz.1
  replace hfwz := hfwz.2
  have g6 := hfwz.1
  replace hfwz := hfwz.2
  have g7 := hfwz.1
  replace hfwz := hfwz.2
  have g8 := hfwz.1
  replace hfwz := hfwz.2
  have g9 := hfwz.1
  replace hfwz := hfwz.2
  have g10 := hfwz.1
  replace hfwz := hfwz.2
  have g11 := hfwz.1
  replace hfwz := hfwz.2
  have g12 := hfwz.1
  replace hfwz := hfwz.2
  clear hfwz
  replace g0 : vals 0 = _ := g0
  replace g1 : vals 1 = _ := g1
  replace g2 : vals 2 = _ := g2
  replace g3 : vals 3 = _ := g3
  replace g4 : vals 4 = _ := g4
  replace g6 : vals 6 = _ := g6
  replace g7 : vals 7 = _ := g7
  replace g8 : vals 8 = _ := g8
  replace g9 : vals 9 = _ := g9
  replace g10 : vals 10 = _ := g10
  replace g12 : vals 12 = _ := g12
  simp only [canonP, Act.put, List.setIfInBounds_toArray, List.set_cons_succ, List.set_cons_zero, g0, g1, g2, g3, g4, g6, g7, g8, g9, g10, g12]
  clear g0 g1 g2 g3 g4 g6 g7 g8 g9 g10 g12
  exact HK.out _ _ _ _ _ _ _ _ _ _ _ _ _ g11.2
#print axioms undone_reg24
end Go.Proofs.Ytnogajnoghjmhaa
