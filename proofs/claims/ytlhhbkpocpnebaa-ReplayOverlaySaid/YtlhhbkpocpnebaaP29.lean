/- The law ReplayOverlay: the walk. -/
import Derived.Test.YtlhhbkpocpnebaaP26
import Derived.Test.YtlhhbkpocpnebaaP27
import Derived.Test.YtlhhbkpocpnebaaP28
set_option linter.unusedVariables false
set_option linter.unusedSimpArgs false
namespace Go.Proofs.Ytlhhbkpocpnebaa
open Go.RowKit Go.Maps

/-- a column of numbers in a row of one's own -/
def Col (k : IntKind) (sz n B : Nat) (a : Option Addr) (w : World) : Prop := n = 0 ∨ ∃ g X t, a = some ⟨g, 0, none⟩ ∧ B ≤ g ∧ w.heap[g]? = some (.cells X t) ∧ ∀ j, j < n → ∃ z, X[j * sz]? = some (.int k z)
theorem Col.grow {k : IntKind} {sz n B : Nat} {a : Option Addr} {w w' : World} (h : Col k sz n B a w) (hg : Grow w w') : Col k sz n B a w' := by
  rcases h with h | ⟨g, X, t, h1, h2, h3, h4⟩
  · exact .inl h
  · exact .inr ⟨g, X, t, h1, h2, (hg.block _ (Array.getElem?_eq_some_iff.1 h3).1).trans h3, h4⟩
theorem Col.at_ {k : IntKind} {sz n B : Nat} {a : Option Addr} {w : World} (h : Col k sz n B a w) (hsz : 0 < sz) {j : Nat} (hj : j < n) : ∃ g z, a = some ⟨g, 0, none⟩ ∧ B ≤ g ∧ g < w.heap.size ∧ w.cell? ⟨g, j * sz, none⟩ = some (.int k z) ∧ w.frozen? ⟨g, j * sz, none⟩ = false ∧
    ∀ z' w', Touch [] w w' → Col k sz n B a (w'.setCell ⟨g, j * sz, none⟩ (.int k z')) := by
  rcases h with h | ⟨g, X, t, h1, h2, h3, h4⟩
  · omega
  · obtain ⟨z, hz⟩ := h4 j hj
    refine ⟨g, z, h1, h2, (Array.getElem?_eq_some_iff.1 h3).1, (cell_at h3 _).trans hz, frozen_at h3 _, fun z' w' ht => .inr ⟨g, _, t, h1, h2, heap_set ((ht.block _ (Array.getElem?_eq_some_iff.1 h3).1 (by simp)).trans h3) _ _, fun i hi => ?_⟩⟩
    by_cases e : j = i
    · subst e
      exact ⟨z', Array.getElem?_setIfInBounds_self_of_lt (Array.getElem?_eq_some_iff.1 hz).1⟩
    · rw [Array.getElem?_setIfInBounds_ne (fun e' => e (Nat.eq_of_mul_eq_mul_right hsz e'))]
      exact h4 i hi
theorem Col.other {k : IntKind} {sz n B : Nat} {a : Option Addr} {w w' : World} (h : Col k sz n B a w) {g : Nat} (ht : Touch [g] w w') (hne : ∀ g', a = some ⟨g', 0, none⟩ → g' ≠ g) : Col k sz n B a w' := by
  rcases h with h | ⟨g', X, t, h1, h2, h3, h4⟩
  · exact .inl h
  · exact .inr ⟨g', X, t, h1, h2, (ht.block _ (Array.getElem?_eq_some_iff.1 h3).1 (fun hm => hne g' h1 (List.mem_singleton.1 hm))).trans h3, h4⟩
theorem grow_set {w0 w w' : World} {g j : Nat} {v : Value} (h : Grow w0 w) (ht : Touch [] w w') (hg : w0.heap.size ≤ g) : Grow w0 (w'.setCell ⟨g, j, none⟩ v) := by
  have h1 := Grow.trans h (ht.below (Nat.le_refl _) (by simp))
  exact Below.trans h1 ((Touch.setCell (S := [g]) w' (a := ⟨g, j, none⟩) (by simp) v).below h1.size (fun k hk => by rw [List.mem_singleton.1 hk]; exact hg))
theorem Row.heap {w : World} {e sz g n cap : Nat} {l : List (List Value)} (h : Row w e sz (.slice (some ⟨g, 0, none⟩) n cap) l) : ∃ C t, w.heap[g]? = some (.cells C t) := by
  obtain ⟨g', c', C, hv, _, hh, _⟩ := h.2.2.resolve_left (fun e => by cases e.1)
  cases hv
  exact ⟨C, _, hh⟩
set_option maxRecDepth 100000 in
theorem col_copies {w : World} {a : Option Addr} {n cap B : Nat} {cs : List Cp} (h : CRow w (.slice a n cap) cs) (hn : n = cs.length) (hlo : ∀ g, (Value.slice a n cap).ownBlock = some g → B ≤ g) : Col .i64 257 n B a w := by
  by_cases h0 : n = 0
  · exact .inl h0
  · obtain ⟨g, cap', hv, hg⟩ := h.open_ (by omega)
    cases hv
    obtain ⟨C, t, hC⟩ := Row.heap h
    refine .inr ⟨g, C, t, rfl, hlo g rfl, hC, fun j hj => ?_⟩
    obtain ⟨c, hc⟩ : ∃ c, cs[j]? = some c := ⟨cs[j]'hj, by simp⟩
    exact ⟨c.1, (cell_at hC _).symm.trans (h.range hc 0 (.int .i64 c.1) rfl)⟩
set_option maxRecDepth 100000 in
theorem col_blocks {w : World} {a : Option Addr} {n cap B : Nat} {l : List Blk} (h : BRow w (.slice a n cap) l) (hn : n = l.length) (hlo : ∀ g, (Value.slice a n cap).ownBlock = some g → B ≤ g) : Col .u8 256 n B a w := by
  by_cases h0 : n = 0
  · exact .inl h0
  · obtain ⟨g, cap', hv, hg⟩ := BRow.open_ h (by omega)
    cases hv
    obtain ⟨C, t, hC⟩ := Row.heap h
    refine .inr ⟨g, C, t, rfl, hlo g rfl, hC, fun j hj => ?_⟩
    obtain ⟨x, hx⟩ : ∃ x, l[j]? = some x := ⟨l[j]'hj, by simp⟩
    have hl := BRow.blk h (List.mem_of_getElem? hx)
    obtain ⟨y, hy⟩ : ∃ y, x[0]? = some y := ⟨x[0]'(by omega), by simp⟩
    have h0 : (bc x)[0]? = some (.int .u8 (y : Int)) := by unfold bc; rw [List.getElem?_map, hy]; rfl
    have h1 := BRow.range h hx 0 _ h0
    exact ⟨_, (cell_at hC _).symm.trans h1⟩
noncomputable def overlay_reg25Code : Code := regById 25 (codesOf (Try.f3.body.getD .skip))
set_option maxRecDepth 100000 in
set_option maxHeartbeats 4000000 in
theorem overlay_reg25 (i n gx kx : Nat) (y : Int) (W1 : World) (hi : i < n) (hnb : n ≤ 1000000) (HX : Hid (gx < W1.heap.size ∧ W1.cell? ⟨gx, i * 256, none⟩ = some (.int .u8 y))) (HF : Hid (W1.frozen? ⟨gx, i * 256, none⟩ = false))
    (s0 s1 s2 s3 s4 s5 s6 s7 s8 s9 s10 s11 s12 s14 s16 s17 s18 s19 s20 s21 s22 s23 s24 s25 s26 s27 s28 s29 s30 s31 s32 s33 s34 s35 s36 s37 s38 s39 s40 s41 s42 s43 s44 s45 s46 s47 s48 s49 s50 s51 s52 s53 s54 s55 s56 s57 s58 s59 s60 s61 s62 s63 s64 s65 s66 s67 s68 s69 s70 s71 s72 s73 s74 s75 s76 s77 s78 s79 s80 s81 s82 s83 s84 s85 s86 s87 s88 s89 s90 s91 s92 s93 s94 s95 s96 s97 s98 s99 s100 s101 s102 : Value) (Q : Exit → Act → World → Prop) (HK : Hid (∀ u95 u96 u97 u98 u99 u100 u101 u102 wz, Touch [] W1 wz → Q .normal ⟨(s0 :: s1 :: s2 :: s3 :: s4 :: s5 :: s6 :: s7 :: s8 :: s9 :: s10 :: s11 :: s12 :: .slice (some ⟨gx, 0, none⟩) n kx :: s14 :: .int .i64 (i : Int) :: s16 :: s17 :: s18 :: s19 :: s20 :: s21 :: s22 :: s23 :: s24 :: s25 :: s26 :: s27 :: s28 :: s29 :: s30 :: s31 :: s32 :: s33 :: s34 :: s35 :: s36 :: s37 :: s38 :: s39 :: s40 :: s41 :: s42 :: s43 :: s44 :: s45 :: s46 :: s47 :: s48 :: s49 :: s50 :: s51 :: s52 :: s53 :: s54 :: s55 :: s56 :: s57 :: s58 :: s59 :: s60 :: s61 :: s62 :: s63 :: s64 :: s65 :: s66 :: s67 :: s68 :: s69 :: s70 :: s71 :: s72 :: s73 :: s74 :: s75 :: s76 :: s77 :: s78 :: s79 :: s80 :: s81 :: s82 :: s83 :: s84 :: s85 :: s86 :: s87 :: s88 :: s89 :: s90 :: s91 :: s92 :: s93 :: s94 :: u95 :: u96 :: u97 :: u98 :: u99 :: u100 :: u101 :: u102 :: []).toArray, []⟩ (wz.setCell ⟨gx, i * 256, none⟩ (.int .u8 (IntKind.u8.wrap (y + 1)))))) : overlay_reg25Code.wp Try.prog Q ⟨(s0 :: s1 :: s2 :: s3 :: s4 :: s5 :: s6 :: s7 :: s8 :: s9 :: s10 :: s11 :: s12 :: .slice (some ⟨gx, 0, none⟩) n kx :: s14 :: .int .i64 (i : Int) :: s16 :: s17 :: s18 :: s19 :: s20 :: s21 :: s22 :: s23 :: s24 :: s25 :: s26 :: s27 :: s28 :: s29 :: s30 :: s31 :: s32 :: s33 :: s34 :: s35 :: s36 :: s37 :: s38 :: s39 :: s40 :: s41 :: s42 :: s43 :: s44 :: s45 :: s46 :: s47 :: s48 :: s49 :: s50 :: s51 :: s52 :: s53 :: s54 :: s55 :: s56 :: s57 :: s58 :: s59 :: s60 :: s61 :: s62 :: s63 :: s64 :: s65 :: s66 :: s67 :: s68 :: s69 :: s70 :: s71 :: s72 :: s73 :: s74 :: s75 :: s76 :: s77 :: s78 :: s79 :: s80 :: s81 :: s82 :: s83 :: s84 :: s85 :: s86 :: s87 :: s88 :: s89 :: s90 :: s91 :: s92 :: s93 :: s94 :: s95 :: s96 :: s97 :: s98 :: s99 :: s100 :: s101 :: s102 :: []).toArray, []⟩ W1 := by
  have b0 : (0 : Int) ≤ (i : Int) := by omega
  have b1 : (i : Int) < (n : Int) := by omega
  conv => arg 2; whnf
  refine wp_region_facts_tail 7 (by kernel_rfl) (by kernel_rfl) [[], [], [(0, some 95), (1, some 96)], [(2, some 97)], [(3, some 98)], [(4, some 99)], [(0, some 95), (1, some 96)]] [(0, some 95), (1, some 96), (2, some 97), (3, some 98), (4, some 99), (5, some 100), (6, some 101)] (by kernel_rfl) (by kernel_rfl) (by kernel_rfl) (Touch []) (Touch.refl []) (fun _ _ _ h h' => h.trans h' (fun i hi => .inl hi)) [Is (Value.slice (some ⟨gx, 0, none⟩) n kx), Is (Value.int .i64 (i : Int)), Is (Value.pointer (some ⟨gx, i * 256, none⟩)), Is (Value.pointer (some ⟨gx, i * 256, none⟩)), Is (Value.int .u8 y), Is (Value.int .u8 (IntKind.u8.wrap (y + 1))), Is (Value.pointer (some ⟨gx, i * 256, none⟩))] rfl ⟨is_stab _ _, is_stab _ _, is_stab _ _, is_stab _ _, is_stab _ _, is_stab _ _, is_stab _ _, trivial⟩ ⟨?o0, ?o1, ?o2, ?o3, ?o4, ?o5, ?o6, trivial⟩ ?_
  case o0 =>
    intro vals wq hRq hpq
    simp only [List.getD_cons_zero, List.getD_cons_succ, canonP]
    simp only [Oper.gives]
    go_simp
    exact ⟨is_mk _ _, (Touch.refl []) _⟩
  case o1 =>
    intro vals wq hRq hpq
    simp only [List.getD_cons_zero, List.getD_cons_succ, canonP]
    simp only [Oper.gives]
    go_simp
    exact ⟨is_mk _ _, (Touch.refl []) _⟩
  case o2 =>
    intro vals wq hRq hpq
    simp only [factsP, List.getD_cons_zero, List.getD_cons_succ] at hpq
    have f0 := hpq.1
    replace hpq := hpq.2
    have f1 := hpq.1
    replace hpq := hpq.2
    clear hpq
    replace f0 : vals 0 = _ := f0
    replace f1 : vals 1 = _ := f1
    simp only [List.getD_cons_zero, List.getD_cons_succ, canonP, f0, f1]
    clear f0 f1
    simp only [Oper.gives]
    go_simp
    exact ⟨is_mk _ _, (Touch.refl []) _⟩
  case o3 =>
    intro vals wq hRq hpq
    simp only [factsP, List.getD_cons_zero, List.getD_cons_succ] at hpq
    have f2 := hpq.1
    replace hpq := hpq.2
    clear hpq
    replace f2 : vals 2 = _ := f2
    simp only [List.getD_cons_zero, List.getD_cons_succ, canonP, f2]
    clear f2
    simp only [Oper.gives]
    go_simp
    exact ⟨is_mk _ _, (Touch.refl []) _⟩
  case o4 =>
    intro vals wq hRq hpq
    simp only [factsP, List.getD_cons_zero, List.getD_cons_succ] at hpq
    have f3 := hpq.1
    replace hpq := hpq.2
    clear hpq
    replace f3 : vals 3 = _ := f3
    simp only [List.getD_cons_zero, List.getD_cons_succ, canonP, f3]
    clear f3
    have hcc : wq.cell? ⟨gx, i * 256, none⟩ = some (.int .u8 y) := (Touch.cell ((Touch.drew [] W1).trans hRq (by simp)) (a := ⟨gx, i * 256, none⟩) HX.out.1 (by simp)).trans HX.out.2
    simp only [Oper.gives]
    go_simp
    exact ⟨is_mk _ _, Touch.refl _ _⟩
  case o5 =>
    intro vals wq hRq hpq
    simp only [factsP, List.getD_cons_zero, List.getD_cons_succ] at hpq
    have f4 := hpq.1
    replace hpq := hpq.2
    clear hpq
    replace f4 : vals 4 = _ := f4
    simp only [List.getD_cons_zero, List.getD_cons_succ, canonP, f4]
    clear f4
    simp only [Oper.gives]
    go_simp
    exact ⟨is_mk _ _, (Touch.refl []) _⟩
  case o6 =>
    intro vals wq hRq hpq
    simp only [factsP, List.getD_cons_zero, List.getD_cons_succ] at hpq
    have f0 := hpq.1
    replace hpq := hpq.2
    have f1 := hpq.1
    replace hpq := hpq.2
    clear hpq
    replace f0 : vals 0 = _ := f0
    replace f1 : vals 1 = _ := f1
    simp only [List.getD_cons_zero, List.getD_cons_succ, canonP, f0, f1]
    clear f0 f1
    simp only [Oper.gives]
    go_simp
    exact ⟨is_mk _ _, (Touch.refl []) _⟩
  intro vals wz hRwz hfwz
  simp only [AllFacts] at hfwz
  have g0 := hfwz.1
  replace hfwz := hfwz.2
  have g1 := hfwz.1
  replace hfwz := hfwz.2
  have g2 := hfwz.1
  replace hfwz := hfwz.2
  have g3 := hfwz.1
  replace hfwz := hfwz.2
  have g4 := hfwz.1
  replace hfwz := hfwz.2
  have g5 := hfwz.1
  replace hfwz := hfwz.2
  have g6 := hfwz.1
  replace hfwz := hfwz.2
  clear hfwz
  replace g0 : vals 0 = _ := g0
  replace g1 : vals 1 = _ := g1
  replace g2 : vals 2 = _ := g2
  replace g3 : vals 3 = _ := g3
  replace g4 : vals 4 = _ := g4
  replace g5 : vals 5 = _ := g5
  replace g6 : vals 6 = _ := g6
  simp only [List.drop_succ_cons, List.drop_zero]
  simp only [canonP, Act.put, List.setIfInBounds_toArray, List.set_cons_succ, List.set_cons_zero, g0, g1, g2, g3, g4, g5, g6]
  clear g0 g1 g2 g3 g4 g5 g6
  have htw : Touch [] W1 wz := (Touch.drew [] W1).trans hRwz (by simp)
  have hcc : wz.cell? ⟨gx, i * 256, none⟩ = some (.int .u8 y) := (htw.cell (a := ⟨gx, i * 256, none⟩) HX.out.1 (by simp)).trans HX.out.2
  have hff : wz.frozen? ⟨gx, i * 256, none⟩ = false := (htw.frozen (a := ⟨gx, i * 256, none⟩) HX.out.1 (by simp)).trans HF.out
  clear htw
  go_wp2
  exact HK.out _ _ _ _ _ _ _ _ _ ((Touch.drew [] W1).trans hRwz (by simp))
#print axioms overlay_reg25

/-- one block in a row of its own: the world behind it under a letter -/
theorem wpList_bs_blk {w : World} {ops : Array Oper} {rest : List Oper} {o : Oper} {a : Act} {Q : Exit → Act → World → Prop} (hgd : o.guard = none) (x : Operand) (ho : o.op = .buildSlice 27 1 #[(0, x)]) (b : Blk) (hb : b.length = 256) (hx : a.eval x = .agg (bc b).toArray)
    (hK : ∀ w' g, (∀ j u, (bc b)[j]? = some u → w'.cell? ((⟨g, 0, none⟩ : Addr).add j) = some u) → Grow w w' → wpList Try.prog ops Q rest (a.put o.dst (.slice (some ⟨g, 0, none⟩) 1 1)) w') : wpList Try.prog ops Q (o :: rest) a w :=
  wpList_buildSlice hgd _ 1 _ ho (by simp only [List.map_toArray, List.map_cons, List.map_nil, hx]; exact buildSlice_blk b hb w) (hK _ _ (new_cells _ _ _) (Grow.alloc _ _))
set_option maxRecDepth 100000 in
set_option maxHeartbeats 16000000 in
theorem overlay_walk {w : World} {v vi : Value} {l : List TSh} {img : List PR} (h : TShIn w v l) (hl : l.length ≤ 9223372036854775807) (hi : RowsIn w vi img) (hil : img.length ≤ 9223372036854775807) : Calls Try.prog 3 #[v, vi] w fun e w' => e = .returned (.bool true) ∧ Below w.heap.size w w' := by
  have HT := Lib.hid h
  have HL := Lib.hid hl
  have HI := Lib.hid hi
  obtain ⟨a, cap, hv, _⟩ := h
  obtain ⟨ai, capi, hvi, _⟩ := hi
  obtain ⟨n, hn⟩ : ∃ n, n = l.length := ⟨_, rfl⟩
  obtain ⟨ni, hni⟩ : ∃ ni, ni = img.length := ⟨_, rfl⟩
  rw [← hn] at hv hl
  rw [← hni] at hvi hil
  have HN := Lib.hid hn
  have HNI := Lib.hid hni
  subst hv hvi
  clear hn hni
  go_enter Try.func3, Try.ntmps3
  go_wp2_with fail
  refine (many19_ok HT.out HL.out).mono ?_
  intro e w2 hpost
  obtain ⟨b, he, hg, hb⟩ := hpost
  subst he
  have HT2 := Lib.hid (HT.out.grow hg)
  have HI2 := Lib.hid (HI.out.grow hg)
  have HG2 := Lib.hid hg
  clear HT HI
  cases b with
  | true =>
    clear hg hb
    go_wp2_with fail
    go_ret
    exact ⟨rfl, HG2.out⟩
  | false =>
    by_cases h300 : 300 < ni
    · have d1 : decide ((300 : Int) < (ni : Int)) = true := by simp; omega
      clear hg hb
      go_wp2_with fail
      go_ret
      exact ⟨rfl, HG2.out⟩
    have d1 : decide ((300 : Int) < (ni : Int)) = false := by simp; omega
    have HLN := Lib.hid (hb rfl).1
    have HSZ := Lib.hid (hb rfl).2
    clear hg hb
    go_wp2_with fail
    refine (short_ok HT2.out HLN.out (Nat.le_trans HSZ.out (by omega))).mono ?_
    intro e w3 hpost
    obtain ⟨v5, xs, he, hs⟩ := hpost
    subst he
    obtain ⟨L, hLL⟩ : ∃ L, L = shortP l := ⟨_, rfl⟩
    obtain ⟨a5, n5, c5, rfl⟩ := rowSlice hs.row.row
    have HX3 := Lib.hid hs.row
    have HTS := Lib.hid (show xs.map (·.t) = L by rw [hs.ts, hLL])
    have HCN := Lib.hid (show copyN L ≤ 1000 by rw [hLL]; exact Nat.le_trans (copyN_short l) HSZ.out)
    have HLX := Lib.hid (show xs.length ≤ 60 by rw [hs.len, shortP_length]; exact HLN.out)
    have HT3 := Lib.hid (HT2.out.grow hs.grow)
    have HI3 := Lib.hid (HI2.out.grow hs.grow)
    have HG3 := Lib.hid (Grow.trans HG2.out hs.grow)
    have HLL := Lib.hid hLL
    clear hs hLL HT2 HI2 HG2
    go_wp2_with fail
    refine (short_ok HT3.out HLN.out (Nat.le_trans HSZ.out (by omega))).mono ?_
    intro e w4 hpost
    obtain ⟨v6, ys, he, hs⟩ := hpost
    subst he
    obtain ⟨a6, n6, c6, rfl⟩ := rowSlice hs.row.row
    have HY4 := Lib.hid hs.row
    have HTY := Lib.hid (show ys.map (·.t) = L by rw [hs.ts, HLL.out])
    have HLY := Lib.hid (show ys.length ≤ 60 by rw [hs.len, shortP_length]; exact HLN.out)
    have HX4 := Lib.hid (HX3.out.grow hs.grow)
    have HI4 := Lib.hid (HI3.out.grow hs.grow)
    have HG4 := Lib.hid (Grow.trans HG3.out hs.grow)
    obtain ⟨ib, hib, hx0, hx1, hx2⟩ := info_parts info32b
    have HIB := Lib.hid hib
    have HB0 := Lib.hid (show GInv w4 (.slice none 0 0) (imgP (img.take 0)) w4 from ⟨rowNil _ _ _, fun g e => (by cases e), Grow.refl _⟩)
    clear hs HX3 HT3 HI3 HG3 hib
    go_wp2_with fail
    go_loopw [7, 8] (fun t7 t8 wr => ∃ i : Nat, t8 = .int .i64 (i : Int) ∧ i ≤ ni ∧ (∃ a7 n7 c7, t7 = .slice a7 n7 c7) ∧ Hid (GInv w4 t7 (imgP (img.take i)) wr)) (fun _ t8 _ => ni - (intOf t8).toNat)
    case atStart => exact ⟨0, by go_num, by omega, ⟨_, _, _, rfl⟩, HB0⟩
    case round =>
      obtain ⟨i, rfl, hin, ⟨av, nv, cv, rfl⟩, HB⟩ := hrel
      clear HB0
      by_cases hi : i < ni
      · obtain ⟨p, hp⟩ : ∃ p, img[i]? = some p := ⟨img[i]'(by rw [← HNI.out]; exact hi), by simp⟩
        obtain ⟨ai', capi', hvi', hel⟩ := HI4.out
        rw [← HNI.out] at hvi'
        cases hvi'
        obtain ⟨y, rfl, hyb, hat⟩ := hel i p hp
        have hat2 := hat.grow hyb HB.out.grow
        have hc0 := hat2.1
        have hc1 : wr.cell? { block := (y.add (i * 3)).block, off := (y.add (i * 3)).off + 1 } = some (.int .u8 (p.f : Int)) := hat2.2.1
        have hc2 : wr.cell? { block := (y.add (i * 3)).block, off := (y.add (i * 3)).off + 2 } = some (.bool p.m) := hat2.2.2.1
        have HP := Lib.hid hp
        have b0 : (0 : Int) ≤ (i : Int) := by omega
        have b1 : (i : Int) < (ni : Int) := by omega
        have HLz := Lib.hid (show (imgP (img.take i)).length + 1 ≤ 1000000 by unfold imgP; rw [List.length_map, List.length_take]; omega)
        clear hat hat2 hp hel
        go_wp2_with fail
        refine (rowblock_ok p wr).mono ?_
        intro e wb hpost
        obtain ⟨he, hg⟩ := hpost
        subst he
        have HGB := Lib.hid hg
        have HRB := Lib.hid (rowB_length p)
        have HBR := Lib.hid (HB.out.row.grow hg)
        clear hg hc0 hc1 hc2
        obtain ⟨xb, hxb⟩ : ∃ xb, xb = rowB p := ⟨_, rfl⟩
        rw [← hxb] at HRB ⊢
        have HXB := Lib.hid hxb
        clear hxb
        go_wp2_with (first | (refine wpList_bs_blk rfl (.tmp 38) rfl xb HRB.out rfl ?_; intro wc gc hcl hgc; have HCC := Lib.hid hcl; have HGC := Lib.hid hgc; have HBC := Lib.hid (HBR.out.grow hgc); clear hcl hgc) | (at_builtin; refine wpList_append_row rfl (.tmp 33) (.tmp 39) 27 rfl 29 ib (.agg (bc zeroB).toArray) 256 256 Try.underlying27 HIB.out hx0 hx1 hx2 (by show (bc zeroB).toArray.size = 256; exact zero_size) (by omega) (.slice av nv cv) ((imgP (img.take i)).map bc) rfl HBC.out ⟨gc, 0, none⟩ 1 (bc xb) rfl (by rw [bc_length]; exact HRB.out) HCC.out (bc_one _) (by rw [List.length_map]; exact HLz.out) (by omega) ?_; intro v' wa happ htch))
        have HB2 := Lib.hid (show GInv w4 v' (imgP (img.take (i + 1))) wa by rw [imgP_take HP.out, ← HXB.out]; exact HB.out.app (Grow.trans HGB.out HGC.out) happ htch)
        clear happ htch
        obtain ⟨a5', n5', c5', rfl⟩ := rowSlice HB2.out.row
        go_roundw
        case rel => exact ⟨i + 1, by go_num, by omega, ⟨_, _, _, rfl⟩, HB2⟩
        case measure => simp [intOf]; omega
      · obtain rfl : i = ni := by omega
        have HB7 := Lib.hid (show BRow wr (.slice av nv cv) (imgP img) by have := HB.out.row; rw [HNI.out, List.take_length] at this; exact this)
        have HBL := Lib.hid (show (imgP img).length ≤ 300 by unfold imgP; rw [List.length_map, ← HNI.out]; omega)
        have HX5 := Lib.hid (HX4.out.grow HB.out.grow)
        have HY5 := Lib.hid (HY4.out.grow HB.out.grow)
        have HG5 := Lib.hid (Grow.trans HG4.out HB.out.grow)
        have hmk := mk_blks
        have HE := Lib.hid (fun w => empty_row w 29 256)
        have HSB := Lib.hid (Src.grow (Row.src HB7.out (fun c hc u hu => by obtain ⟨x, _, rfl⟩ := List.mem_map.1 hc; exact bc_one x u hu)) (Grow.alloc wr (.cells #[] 29)))
        have HLL2 := Lib.hid (show (([] : List Blk).map bc).length + ((imgP img).map bc).length ≤ 1000000 by rw [List.length_map, List.length_map, List.length_nil]; have := HBL.out; omega)
        clear HB HX4 HY4 HG4 HI4
        go_upto_region 10 with (at_builtin; refine wpList_append_rows rfl (.tmp 41) (.tmp 42) 27 rfl 29 ib (.agg (bc zeroB).toArray) 256 256 Try.underlying27 HIB.out hx0 hx1 hx2 (by show (bc zeroB).toArray.size = 256; exact zero_size) (by omega) (.slice (some ⟨wr.heap.size, 0, none⟩) 0 0) (.slice av nv cv) _ _ rfl (HE.out wr) rfl HSB.out HLL2.out (by omega) ?_; intro v9 wa happ htch)
        have HK9 := Lib.hid (show GInv wr v9 (imgP img) wa from copyrow happ htch)
        obtain ⟨a9, n9, c9, rfl⟩ := rowSlice HK9.out.row
        have HB7a := Lib.hid (HB7.out.grow HK9.out.grow)
        have HX6 := Lib.hid (HX5.out.grow HK9.out.grow)
        have HY6 := Lib.hid (HY5.out.grow HK9.out.grow)
        have HG6 := Lib.hid (Grow.trans HG5.out HK9.out.grow)
        have HRO := Lib.hid (roverlay_ok HX6.out HTS.out (by have := HLX.out; omega) (Nat.le_trans HCN.out (by omega)))
        have HOW := Lib.hid (own_ov L (fun t ht => by rw [← HTS.out] at ht; obtain ⟨x, hx, rfl⟩ := List.mem_map.1 ht; exact (HX6.out.at_ x hx).ok))
        clear happ htch hmk HSB HE HLL2 HX5 HY5 HG5 HB7
        go_wp2_with fail
        refine HRO.out.mono ?_
        intro e w7 hpost
        obtain ⟨v10, zs, he, hr, hc, hg, _⟩ := hpost
        subst he
        obtain ⟨a10, n10, c10, rfl⟩ := rowSlice hc
        have HR := Lib.hid hr
        have HC10 := Lib.hid hc
        have HB7 := Lib.hid (HB7a.out.grow hg)
        have HB9 := Lib.hid (HK9.out.row.grow hg)
        have HX := Lib.hid (HX6.out.grow hg)
        have HY := Lib.hid (HY6.out.grow hg)
        have HG := Lib.hid (Grow.trans HG6.out hg)
        obtain ⟨cs, hcs⟩ : ∃ cs, cs = outL (ov L) zs := ⟨_, rfl⟩
        have HCL := Lib.hid (show cs.length ≤ 1000 by
          rw [hcs]
          unfold outL
          rw [List.length_map]
          refine Nat.le_trans (nodup_sub zs (allB L) hr.nodup (fun z hz => ?_)) (by rw [allB_length]; exact HCN.out)
          exact Classical.byContradiction fun hn => by have h1 := (hr.mem z).1 hz; unfold HasM at h1; rw [ov_copied L z hn] at h1; cases h1)
        have HCO := Lib.hid (show ∀ c ∈ cs, IntOk c.1 from fun c hc => by
          rw [hcs] at hc
          obtain ⟨z, hz, rfl⟩ := List.mem_map.1 hc
          obtain ⟨d, hd⟩ := Option.isSome_iff_exists.1 ((HR.out.mem z).1 hz)
          rw [hd]
          exact (HOW.out z d hd).2.2)
        rw [← hcs] at HC10
        have HCS := Lib.hid hcs
        have HCX := Lib.hid (show ∀ x ∈ xs, x.t.cs.length ≤ 1000000 from fun x hx => by
          have h1 : x.t ∈ L := by rw [← HTS.out]; exact List.mem_map_of_mem hx
          have h2 : x.t.cs.length ≤ copyN L := by
            unfold copyN
            obtain ⟨ii, hii, he⟩ := List.getElem_of_mem h1
            have h3 := copyN_take (l := L) (k := ii) (t := x.t) (by rw [List.getElem?_eq_getElem hii, he])
            have h4 := copyN_le L (ii + 1)
            unfold copyN at h3 h4
            omega
          have := HCN.out
          omega)
        have HCY := Lib.hid (show ∀ x ∈ ys, x.t.cs.length ≤ 1000000 from fun x hx => by
          have h1 : x.t ∈ xs.map (·.t) := by rw [HTS.out, ← HTY.out]; exact List.mem_map_of_mem hx
          obtain ⟨x', hx', he⟩ := List.mem_map.1 h1
          rw [← he]
          exact HCX.out x' hx')
        clear hr hc hg hcs HRO HB7a HK9 HX6 HY6 HG6
        go_wp2_with fail
        go_loopw [11] (fun t11 wr => ∃ T : Nat, t11 = .int .i64 (T : Int) ∧ T ≤ 2 ∧ Hid (Grow w7 wr)) (fun t11 _ => 2 - (intOf t11).toNat)
        case atStart => exact ⟨0, by go_num, by omega, Lib.hid (Grow.refl _)⟩
        case round =>
          obtain ⟨T, rfl, hT, HW⟩ := hrel
          by_cases hTT : T < 2
          · have dT : decide ((T : Int) < 2) = true := by simp; omega
            obtain ⟨wo, rfl⟩ : ∃ wo : World, wo = wr := ⟨_, rfl⟩
            have HOV := Lib.hid (overlay_ok (HY.out.grow HW.out) (by have := HLY.out; omega) (by rw [HTY.out]; exact Nat.le_trans HCN.out (by omega)))
            rw [HTY.out] at HOV
            go_wp2_with fail
            refine HOV.out.mono ?_
            intro e w8 hpost
            obtain ⟨v12, z12, he, hr, hc, hg, hlo⟩ := hpost
            subst he
            obtain rfl := hr.unique HR.out
            rw [← HCS.out] at hc
            obtain ⟨a12, k12, hv12⟩ := CRow.len hc
            obtain ⟨n12, hn12⟩ : ∃ n, n = cs.length := ⟨_, rfl⟩
            rw [← hn12] at hv12
            subst hv12
            have HC12 := Lib.hid hc
            have HN12 := Lib.hid hn12
            have HK12 := Lib.hid (col_copies (B := w7.heap.size) hc hn12 (fun g e => Nat.le_trans HW.out.size (hlo g e)))
            have HG8 := Lib.hid (Grow.trans HW.out hg)
            have HO := Lib.hid (over_ok (HB9.out.grow HG8.out) hc (Nat.le_trans HBL.out (by omega)) (Nat.le_trans HCL.out (by omega)) HCO.out)
            clear hr hc hg hlo hn12 HOV
            go_wp2_with fail
            refine HO.out.mono ?_
            intro e w9 hpost
            obtain ⟨v13, he, hb, hg, hlo⟩ := hpost
            subst he
            obtain ⟨a13, k13, hv13⟩ := BRow.len hb
            obtain ⟨n13, hn13⟩ : ∃ n, n = (overB (imgP img) cs).length := ⟨_, rfl⟩
            rw [← hn13] at hv13
            subst hv13
            have HB13 := Lib.hid hb
            have h13b : n13 ≤ 300 := by rw [hn13, overB_length]; exact HBL.out
            have HK13 := Lib.hid (col_blocks (B := w7.heap.size) hb hn13 (fun g e => Nat.le_trans HG8.out.size (hlo g e)))
            have HC12b := Lib.hid (HC12.out.grow hg)
            have HK12b := Lib.hid (HK12.out.grow hg)
            have HG9 := Lib.hid (Grow.trans HG8.out hg)
            have HS1 := Lib.hid (samec_ok HC12b.out (HC10.out.grow HG9.out) (Nat.le_trans HCL.out (by omega)))
            have HAP := Lib.hid (show ∀ g g', a12 = some ⟨g, 0, none⟩ → a13 = some ⟨g', 0, none⟩ → g' ≠ g from fun g g' h1 h2 e => by
              have q1 := hlo g' (by rw [h2]; rfl)
              have q2 := Row.lt HC12.out (g := g) (by rw [h1]; rfl)
              omega)
            clear hb hg hlo hn13 HO HC12 HK12
            go_wp2_with fail
            refine HS1.out.mono ?_
            intro e w10 hpost
            obtain ⟨he, hg⟩ := hpost
            subst he
            have HG10 := Lib.hid (Grow.trans HG9.out hg)
            have HG910 := Lib.hid hg
            have HS2 := Lib.hid (sameall_ok (HY.out.grow HG10.out) (HX.out.grow HG10.out) (by rw [HTY.out, HTS.out]) (by have := HLY.out; omega) HCY.out)
            clear hg HS1
            go_wp2_with fail
            refine HS2.out.mono ?_
            intro e w11 hpost
            obtain ⟨he, hg⟩ := hpost
            subst he
            have HG11 := Lib.hid (Grow.trans HG10.out hg)
            have HG911 := Lib.hid (Grow.trans HG910.out hg)
            have HRV := Lib.hid (rover_ok (HB7.out.grow HG11.out) (HC10.out.grow HG11.out) (Nat.le_trans HBL.out (by omega)) (Nat.le_trans HCL.out (by omega)) HCO.out)
            clear hg HS2 HG910 HG10
            go_wp2_with fail
            refine HRV.out.mono ?_
            intro e w12 hpost
            obtain ⟨v69, he, hb, hg, _⟩ := hpost
            subst he
            have HG12 := Lib.hid (Grow.trans HG11.out hg)
            have HG912 := Lib.hid (Grow.trans HG911.out hg)
            have HS3 := Lib.hid (sameb_ok (HB13.out.grow HG912.out) hb (by rw [overB_length]; exact Nat.le_trans HBL.out (by omega)))
            clear hb hg HRV HG911 HG11
            go_wp2_with fail
            refine HS3.out.mono ?_
            intro e w13 hpost
            obtain ⟨he, hg⟩ := hpost
            subst he
            have HG13 := Lib.hid (Grow.trans HG12.out hg)
            have HG913 := Lib.hid (Grow.trans HG912.out hg)
            have HS4 := Lib.hid (sameb_ok (HB9.out.grow HG13.out) (HB7.out.grow HG13.out) (Nat.le_trans HBL.out (by omega)))
            clear hg HS3 HG912 HG12
            go_wp2_with fail
            refine HS4.out.mono ?_
            intro e w14 hpost
            obtain ⟨he, hg⟩ := hpost
            subst he
            have HG14 := Lib.hid (Grow.trans HG13.out hg)
            have HG914 := Lib.hid (Grow.trans HG913.out hg)
            have HKa := Lib.hid (HK12b.out.grow HG914.out)
            have HKb := Lib.hid (HK13.out.grow HG914.out)
            have hn12b : n12 ≤ 1000 := by rw [HN12.out]; exact HCL.out
            clear hg HS4 HG913 HG13 HK12b HK13 HG914
            go_wp2_with fail
            go_loopw [14] (fun t14 wr => ∃ j : Nat, t14 = .int .i64 (j : Int) ∧ j ≤ n12 ∧ Hid (Grow w7 wr ∧ Col .i64 257 n12 w7.heap.size a12 wr ∧ Col .u8 256 n13 w7.heap.size a13 wr)) (fun t14 _ => n12 - (intOf t14).toNat)
            case atStart => exact ⟨0, by go_num, by omega, Lib.hid ⟨HG14.out, HKa.out, HKb.out⟩⟩
            case round =>
              obtain ⟨j, rfl, hj, HJ⟩ := hrel
              by_cases hjl : j < n12
              · obtain ⟨g, z, rfl, hlo, hgl, hcell, hfr, hset⟩ := HJ.out.2.1.at_ (by omega) hjl
                have HJ2 := Lib.hid (show Grow w7 (wr.setCell ⟨g, j * 257, none⟩ (.int .i64 (-5))) ∧ Col .i64 257 n12 w7.heap.size (some ⟨g, 0, none⟩) (wr.setCell ⟨g, j * 257, none⟩ (.int .i64 (-5))) ∧ Col .u8 256 n13 w7.heap.size a13 (wr.setCell ⟨g, j * 257, none⟩ (.int .i64 (-5))) from
                  ⟨grow_set HJ.out.1 (Touch.refl _ _) hlo, hset _ _ (Touch.refl _ _), HJ.out.2.2.other (Touch.setCell wr (a := ⟨g, j * 257, none⟩) (by simp) _) (fun g' h => HAP.out g g' rfl h)⟩)
                have b0 : (0 : Int) ≤ (j : Int) := by omega
                have b1 : (j : Int) < (n12 : Int) := by omega
                clear hset hlo
                go_wp2
                go_roundw
                case rel => exact ⟨j + 1, by go_num, by omega, HJ2⟩
                case measure => simp [intOf]; omega
              · obtain rfl : j = n12 := by omega
                have HG15 := Lib.hid HJ.out.1
                have HK15 := Lib.hid HJ.out.2.2
                clear HJ
                go_wp2_with fail
                go_loopw [15] (fun t15 wr => ∃ i : Nat, t15 = .int .i64 (i : Int) ∧ i ≤ n13 ∧ Hid (Grow w7 wr ∧ Col .u8 256 n13 w7.heap.size a13 wr)) (fun t15 _ => n13 - (intOf t15).toNat)
                case atStart => exact ⟨0, by go_num, by omega, Lib.hid ⟨HG15.out, HK15.out⟩⟩
                case round =>
                  obtain ⟨i, rfl, hin13, HJ⟩ := hrel
                  by_cases hi : i < n13
                  · obtain ⟨gx, y, rfl, hlo, hgl, hcell, hfr, hset⟩ := HJ.out.2.at_ (by omega) hi
                    have HXI := Lib.hid (And.intro hgl hcell)
                    have HXF := Lib.hid hfr
                    have HST := Lib.hid hset
                    have HLO := Lib.hid hlo
                    clear hset hlo hgl hcell hfr
                    go_upto_region 25 with (fail)
                    refine overlay_reg25 i n13 gx k13 y wr hi (by omega) HXI HXF _ _ _ _ _ _ _ _ _ _ _ _ _ _ _ _ _ _ _ _ _ _ _ _ _ _ _ _ _ _ _ _ _ _ _ _ _ _ _ _ _ _ _ _ _ _ _ _ _ _ _ _ _ _ _ _ _ _ _ _ _ _ _ _ _ _ _ _ _ _ _ _ _ _ _ _ _ _ _ _ _ _ _ _ _ _ _ _ _ _ _ _ _ _ _ _ _ _ _ _ _ _ (Lib.hid ?hoverlayreg251)
                    intro u95 u96 u97 u98 u99 u100 u101 u102 W2 hRW2
                    have HJ2 := Lib.hid (And.intro (grow_set (j := i * 256) (v := .int .u8 (IntKind.u8.wrap (y + 1))) HJ.out.1 hRW2 HLO.out) (HST.out (IntKind.u8.wrap (y + 1)) W2 hRW2))
                    clear hRW2
                    go_wp2
                    go_roundw
                    case rel => exact ⟨i + 1, by go_num, by omega, HJ2⟩
                    case measure => simp [intOf]; omega
                  · obtain rfl : i = n13 := by omega
                    have HGe := Lib.hid HJ.out.1
                    clear HJ
                    go_wp2_with fail
                    go_roundw
                    case rel => exact ⟨T + 1, by go_num, by omega, HGe⟩
                    case measure => simp [intOf]; omega
          · have dT : decide ((T : Int) < 2) = false := by simp; omega
            have HGF := Lib.hid (Grow.trans HG.out HW.out)
            go_wp2_with fail
            go_ret
            exact ⟨rfl, HGF.out⟩
#print axioms overlay_walk
end Go.Proofs.Ytlhhbkpocpnebaa
