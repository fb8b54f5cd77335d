/- The law TxnGets: the plain side; its regions over letters. -/
import Derived.Test.YtnogajnoghjmhaaT26
set_option linter.unusedVariables false
set_option linter.unusedSimpArgs false
namespace Go.Proofs.Ytnogajnoghjmhaa
open Go.RowKit Go.Maps

def NewP (W1 : World) : Value → World → Prop := fun v wx => ∃ g, v = .pointer (some ⟨g, 0, none⟩) ∧ W1.heap.size ≤ g ∧ g < wx.heap.size ∧ wx.heap[g]? = some (.cells #[.int .i64 0, .int .u32 0] 30)
/-- a put: a block, what it is filled by -/
abbrev PP := Int × Nat
def pcell (p : PP) : List Value := [.int .i64 p.1, .int .u32 (p.2 : Int)]
def fillP (p : PP) : Int × Blk := (p.1, fillB p.2)
def insP (m : List PP) (p : PP) : List PP := m.filter (fun q => decide (q.1 ≠ p.1)) ++ [p]
theorem insP_fill (m : List PP) (p : PP) : (insP m p).map fillP = insA (m.map fillP) p.1 (fillB p.2) := by
  unfold insP insA delA
  rw [List.map_append, List.filter_map]
  rfl
theorem insP_le (m : List PP) (p : PP) : (insP m p).length ≤ m.length + 1 := by
  unfold insP
  rw [List.length_append]
  have := List.length_filter_le (fun q : PP => decide (q.1 ≠ p.1)) m
  simp only [List.length_cons, List.length_nil]; omega
/-- a transaction in whose handle there were only puts -/
structure GInv (k : Nat) (m : List PP) (t : TS) : Prop where
  ex : ∃ s did, t = .o s noPS 1000 0 did ∧ s.ch = m.map fillP ∧ s.rv = [] ∧ did.length ≤ k
  le : m.length ≤ k
  ok : ∀ p ∈ m, p.2 < 4294967296 ∧ 0 ≤ p.1 ∧ p.1 < 1000
theorem GInv.start : GInv 0 [] (.o noPS noPS 1000 0 []) := ⟨⟨_, _, rfl, rfl, rfl, by simp⟩, by simp, by simp⟩
theorem GInv.put {k : Nat} {m : List PP} {t : TS} (h : GInv k m t) (hk : k < 1000) {p : PP} (hp : p.2 < 4294967296 ∧ 0 ≤ p.1 ∧ p.1 < 1000) : ∃ t', putT t p.1 (fillB p.2) = (0, t') ∧ GInv (k + 1) (insP m p) t' := by
  obtain ⟨s, did, rfl, h1, h2, h3⟩ := h.ex
  unfold putT
  dsimp only
  rw [if_neg (by omega), if_neg (fun c => by omega)]
  refine ⟨_, rfl, ⟨⟨_, _, rfl, ?_, ?_, ?_⟩, ?_, ?_⟩⟩
  · rw [insP_fill, ← h1]
  · show delS s.rv p.1 = []
    rw [h2]; rfl
  · have := insA_le did p.1 (); omega
  · have := insP_le m p; have := h.le; omega
  · intro q hq
    rcases List.mem_append.1 hq with hq | hq
    · exact h.ok q (List.mem_filter.1 hq).1
    · rw [List.mem_singleton.1 hq]; exact hp
def PutsIn (w : World) (v : Value) (l : List PP) : Prop := ∃ a cap, v = .slice a l.length cap ∧ ∀ (i : Nat) (p : PP), l[i]? = some p → ∃ y : Addr, a = some y ∧ y.block < w.heap.size ∧ w.cell? (y.add (i * 2)) = some (.int .i64 p.1) ∧ w.cell? ((y.add (i * 2)).add 1) = some (.int .u32 (p.2 : Int)) ∧ p.2 < 4294967296
theorem PutsIn.len {w : World} {v : Value} {l : List PP} (h : PutsIn w v l) : ∃ a cap, v = .slice a l.length cap := by
  obtain ⟨a, cap, hv, _⟩ := h
  exact ⟨a, cap, hv⟩
theorem PutsIn.at_ {w : World} {v : Value} {l : List PP} (h : PutsIn w v l) {i : Nat} {p : PP} (hp : l[i]? = some p) : ∃ y cap, v = .slice (some y) l.length cap ∧ y.block < w.heap.size ∧ w.cell? (y.add (i * 2)) = some (.int .i64 p.1) ∧ w.cell? ((y.add (i * 2)).add 1) = some (.int .u32 (p.2 : Int)) ∧ p.2 < 4294967296 := by
  obtain ⟨a, cap, hv, h⟩ := h
  obtain ⟨y, rfl, h1, h2⟩ := h i p hp
  exact ⟨y, cap, hv, h1, h2⟩
/-- rows of puts -/
def PRow (w : World) (v : Value) (m : List PP) : Prop := Row w 30 2 v (m.map pcell)
theorem infoPut : (Try.prog.info? 30).map (fun i => (i.zero, i.size, i.bytes)) = some (some (.agg #[.int .i64 0, .int .u32 0]), 2, 16) := by kernel_rfl
theorem zeroPut (w : World) : (zeroValue 30).run Try.prog w = .ok (.agg #[.int .i64 0, .int .u32 0]) w := (zero_of_info (show (Try.prog.info? 30).map (fun i => (i.zero, i.size)) = some (some (.agg #[.int .i64 0, .int .u32 0]), 2) by kernel_rfl)).1 w
theorem PRow.len {w : World} {v : Value} {m : List PP} (h : PRow w v m) : ∃ a cap, v = .slice a m.length cap := by
  obtain ⟨a, cap, hv⟩ := Row.len h
  rw [List.length_map] at hv
  exact ⟨a, cap, hv⟩
theorem PRow.at_ {w : World} {a : Option Addr} {n cap : Nat} {m : List PP} (h : PRow w (.slice a n cap) m) {k : Nat} {p : PP} (hk : m[k]? = some p) : ∃ g, a = some ⟨g, 0, none⟩ ∧ g < w.heap.size ∧ w.cell? ⟨g, k * 2, none⟩ = some (.int .i64 p.1) ∧ w.cell? ⟨g, k * 2 + 1, none⟩ = some (.int .u32 (p.2 : Int)) := by
  obtain ⟨g, cap', hv, hg, _⟩ := Row.open_ h (by rw [List.length_map]; have := (List.getElem?_eq_some_iff.1 hk).1; omega)
  cases hv
  have hr := Row.range h (i := k) (c := pcell p) (by rw [List.getElem?_map, hk]; rfl)
  exact ⟨g, rfl, hg, hr 0 _ rfl, hr 1 _ rfl⟩
noncomputable def gets_reg10Code : Code := regById 10 (codesOf (Try.f3.body.getD .skip))
set_option maxRecDepth 100000 in
set_option maxHeartbeats 4000000 in
theorem gets_reg10 (y : Addr) (n cap i f : Nat) (b bu c : Int) (W1 : World) (HB0 : Hid ((0 : Int) ≤ (i : Int))) (HB1 : Hid ((i : Int) < (n : Int))) (HP0 : Hid (W1.cell? (y.add (i * 2)) = some (.int .i64 b))) (HP1 : Hid (W1.cell? ((y.add (i * 2)).add 1) = some (.int .u32 (f : Int)))) (HPL : Hid (y.block < W1.heap.size)) (HE1 : Hid (IntKind.u64.wrap b = bu)) (HE3 : Hid (bu.tmod 1000 = c)) (HE5 : Hid (IntKind.i64.wrap c = c))
    (s0 s2 s3 s4 s5 s6 s8 s9 s10 s11 s12 s13 s14 s15 s16 s17 s18 s19 s20 s21 s22 s23 s24 s25 s26 s27 s28 s29 s30 s31 s32 s33 s34 s35 s36 s37 s38 s39 s40 s41 s42 s43 s44 s45 s46 s47 s48 s49 s50 s51 s52 s53 s54 s55 s56 s57 s58 s59 s60 s61 s62 s63 s64 s65 s66 s67 s68 s69 s70 s71 s72 s73 s74 s75 s76 s77 s78 s79 s80 s81 s82 s83 s84 s85 s86 s87 s88 s89 s90 s91 s92 s93 s94 s95 s96 s97 s98 s99 s100 s101 s102 s103 s104 s105 s106 s107 s108 s109 s110 s111 s112 s113 s114 s115 s116 s117 s118 s119 s120 s121 s122 s123 s124 s125 s126 s127 s128 s129 s130 s131 s132 s133 s134 s135 s136 s137 s138 s139 s140 s141 s142 s143 s144 s145 s146 s147 s148 s149 s150 s151 s152 s153 s154 s155 s156 s157 s158 s159 s160 s161 s162 s163 s164 s165 s166 s167 s168 s169 s170 s171 s172 s173 s174 s175 s176 s177 s178 s179 s180 s181 s182 s183 s184 s185 s186 s187 s188 s189 s190 s191 s192 : Value) (Q : Exit → Act → World → Prop) (HK : Hid (∀ u32 u33 u34 u35 u36 u37 u38 u39 u40 u41 u42 u43 u44 u45 wz, ∀ g, W1.heap.size ≤ g → wz.heap[g]? = some (.cells #[.int .i64 c, .int .u32 (f : Int)] 30) → Touch [] W1 wz → Q .normal ⟨(s0 :: .slice (some y) n cap :: s2 :: s3 :: s4 :: s5 :: s6 :: .int .i64 (i : Int) :: .pointer (some ⟨g, 0, none⟩) :: s9 :: s10 :: s11 :: s12 :: s13 :: s14 :: s15 :: s16 :: s17 :: s18 :: s19 :: s20 :: s21 :: s22 :: s23 :: s24 :: s25 :: s26 :: s27 :: s28 :: s29 :: s30 :: s31 :: u32 :: u33 :: u34 :: u35 :: u36 :: u37 :: u38 :: u39 :: u40 :: u41 :: u42 :: u43 :: u44 :: u45 :: s46 :: s47 :: s48 :: s49 :: s50 :: s51 :: s52 :: s53 :: s54 :: s55 :: s56 :: s57 :: s58 :: s59 :: s60 :: s61 :: s62 :: s63 :: s64 :: s65 :: s66 :: s67 :: s68 :: s69 :: s70 :: s71 :: s72 :: s73 :: s74 :: s75 :: s76 :: s77 :: s78 :: s79 :: s80 :: s81 :: s82 :: s83 :: s84 :: s85 :: s86 :: s87 :: s88 :: s89 :: s90 :: s91 :: s92 :: s93 :: s94 :: s95 :: s96 :: s97 :: s98 :: s99 :: s100 :: s101 :: s102 :: s103 :: s104 :: s105 :: s106 :: s107 :: s108 :: s109 :: s110 :: s111 :: s112 :: s113 :: s114 :: s115 :: s116 :: s117 :: s118 :: s119 :: s120 :: s121 :: s122 :: s123 :: s124 :: s125 :: s126 :: s127 :: s128 :: s129 :: s130 :: s131 :: s132 :: s133 :: s134 :: s135 :: s136 :: s137 :: s138 :: s139 :: s140 :: s141 :: s142 :: s143 :: s144 :: s145 :: s146 :: s147 :: s148 :: s149 :: s150 :: s151 :: s152 :: s153 :: s154 :: s155 :: s156 :: s157 :: s158 :: s159 :: s160 :: s161 :: s162 :: s163 :: s164 :: s165 :: s166 :: s167 :: s168 :: s169 :: s170 :: s171 :: s172 :: s173 :: s174 :: s175 :: s176 :: s177 :: s178 :: s179 :: s180 :: s181 :: s182 :: s183 :: s184 :: s185 :: s186 :: s187 :: s188 :: s189 :: s190 :: s191 :: s192 :: []).toArray, []⟩ (wz))) : gets_reg10Code.wp Try.prog Q ⟨(s0 :: .slice (some y) n cap :: s2 :: s3 :: s4 :: s5 :: s6 :: .int .i64 (i : Int) :: s8 :: s9 :: s10 :: s11 :: s12 :: s13 :: s14 :: s15 :: s16 :: s17 :: s18 :: s19 :: s20 :: s21 :: s22 :: s23 :: s24 :: s25 :: s26 :: s27 :: s28 :: s29 :: s30 :: s31 :: s32 :: s33 :: s34 :: s35 :: s36 :: s37 :: s38 :: s39 :: s40 :: s41 :: s42 :: s43 :: s44 :: s45 :: s46 :: s47 :: s48 :: s49 :: s50 :: s51 :: s52 :: s53 :: s54 :: s55 :: s56 :: s57 :: s58 :: s59 :: s60 :: s61 :: s62 :: s63 :: s64 :: s65 :: s66 :: s67 :: s68 :: s69 :: s70 :: s71 :: s72 :: s73 :: s74 :: s75 :: s76 :: s77 :: s78 :: s79 :: s80 :: s81 :: s82 :: s83 :: s84 :: s85 :: s86 :: s87 :: s88 :: s89 :: s90 :: s91 :: s92 :: s93 :: s94 :: s95 :: s96 :: s97 :: s98 :: s99 :: s100 :: s101 :: s102 :: s103 :: s104 :: s105 :: s106 :: s107 :: s108 :: s109 :: s110 :: s111 :: s112 :: s113 :: s114 :: s115 :: s116 :: s117 :: s118 :: s119 :: s120 :: s121 :: s122 :: s123 :: s124 :: s125 :: s126 :: s127 :: s128 :: s129 :: s130 :: s131 :: s132 :: s133 :: s134 :: s135 :: s136 :: s137 :: s138 :: s139 :: s140 :: s141 :: s142 :: s143 :: s144 :: s145 :: s146 :: s147 :: s148 :: s149 :: s150 :: s151 :: s152 :: s153 :: s154 :: s155 :: s156 :: s157 :: s158 :: s159 :: s160 :: s161 :: s162 :: s163 :: s164 :: s165 :: s166 :: s167 :: s168 :: s169 :: s170 :: s171 :: s172 :: s173 :: s174 :: s175 :: s176 :: s177 :: s178 :: s179 :: s180 :: s181 :: s182 :: s183 :: s184 :: s185 :: s186 :: s187 :: s188 :: s189 :: s190 :: s191 :: s192 :: []).toArray, []⟩ W1 := by
  conv => arg 2; whnf
  refine wp_region_facts_tail 15 (by kernel_rfl) (by kernel_rfl) [[], [], [(0, some 32), (1, some 33)], [(2, some 34)], [(3, some 35)], [(4, some 36)], [(5, some 37)], [(6, some 38)], [], [], [(8, some 40), (9, some 41)], [(10, some 42)], [(11, some 43)], [(7, some 39), (12, some 44)], []] [(0, some 32), (1, some 33), (2, some 34), (3, some 35), (4, some 36), (5, some 37), (6, some 38), (7, some 39), (8, some 40), (9, some 41), (10, some 42), (11, some 43), (12, some 44), (13, some 45), (14, some 8)] (by kernel_rfl) (by kernel_rfl) (by kernel_rfl) (Touch []) (Touch.refl []) (fun _ _ _ h h' => h.trans h' (fun i hi => .inl hi)) [Is (Value.slice (some y) n cap), Is (Value.int .i64 (i : Int)), Is (Value.pointer (some (y.add (i * 2)))), Is (Value.pointer (some (y.add (i * 2)))), Is (Value.int .i64 b), Is (Value.int .u64 bu), Is (Value.int .u64 c), Is (Value.int .i64 c), Is (Value.slice (some y) n cap), Is (Value.int .i64 (i : Int)), Is (Value.pointer (some (y.add (i * 2)))), Is (Value.pointer (some ((y.add (i * 2)).add 1))), Is (Value.int .u32 (f : Int)), Is (Value.agg #[.int .i64 c, .int .u32 (f : Int)]), (NewP W1)] rfl ⟨is_stab _ _, is_stab _ _, is_stab _ _, is_stab _ _, is_stab _ _, is_stab _ _, is_stab _ _, is_stab _ _, is_stab _ _, is_stab _ _, is_stab _ _, is_stab _ _, is_stab _ _, is_stab _ _, (fun v wa wb hab ⟨g, h1, h2, h3, h4⟩ => ⟨g, h1, h2, Nat.lt_of_lt_of_le h3 hab.size, (hab.block g h3 (by simp)).trans h4⟩), trivial⟩ ⟨?o0, ?o1, ?o2, ?o3, ?o4, ?o5, ?o6, ?o7, ?o8, ?o9, ?o10, ?o11, ?o12, ?o13, ?o14, trivial⟩ ?_
  case o0 =>
    intro vals wq hRq hpq
    simp only [List.getD_cons_zero, List.getD_cons_succ, canonP]
    simp only [Oper.gives]
    go_simp
    exact ⟨is_mk _ _, (Touch.refl []) _⟩
  case o1 =>
    intro vals wq hRq hpq
    simp only [List.getD_cons_zero, List.getD_cons_succ, canonP]
    simp only [Oper.gives]
    go_simp
    exact ⟨is_mk _ _, (Touch.refl []) _⟩
  case o2 =>
    intro vals wq hRq hpq
    simp only [factsP, List.getD_cons_zero, List.getD_cons_succ] at hpq
    have f0 := hpq.1
    replace hpq := hpq.2
    have f1 := hpq.1
    replace hpq := hpq.2
    clear hpq
    replace f0 : vals 0 = _ := f0
    replace f1 : vals 1 = _ := f1
    simp only [List.getD_cons_zero, List.getD_cons_succ, canonP, f0, f1]
    clear f0 f1
    have b0 := HB0.out
    have b1 := HB1.out
    simp only [Oper.gives]
    go_simp
    exact ⟨is_mk _ _, Touch.refl _ _⟩
  case o3 =>
    intro vals wq hRq hpq
    simp only [factsP, List.getD_cons_zero, List.getD_cons_succ] at hpq
    have f2 := hpq.1
    replace hpq := hpq.2
    clear hpq
    replace f2 : vals 2 = _ := f2
    simp only [List.getD_cons_zero, List.getD_cons_succ, canonP, f2]
    clear f2
    simp only [Oper.gives]
    go_simp
    exact ⟨is_mk _ _, (Touch.refl []) _⟩
  case o4 =>
    intro vals wq hRq hpq
    simp only [factsP, List.getD_cons_zero, List.getD_cons_succ] at hpq
    have f3 := hpq.1
    replace hpq := hpq.2
    clear hpq
    replace f3 : vals 3 = _ := f3
    simp only [List.getD_cons_zero, List.getD_cons_succ, canonP, f3]
    clear f3
    have hcc : wq.cell? (y.add (i * 2)) = some (.int .i64 b) := (Touch.cell ((Touch.drew [] W1).trans hRq (by simp)) (by rw [add_block]; exact HPL.out) (by simp)).trans HP0.out
    simp only [Oper.gives]
    go_simp
    exact ⟨is_mk _ _, Touch.refl _ _⟩
  case o5 =>
    intro vals wq hRq hpq
    simp only [factsP, List.getD_cons_zero, List.getD_cons_succ] at hpq
    have f4 := hpq.1
    replace hpq := hpq.2
    clear hpq
    replace f4 : vals 4 = _ := f4
    simp only [List.getD_cons_zero, List.getD_cons_succ, canonP, f4]
    clear f4
    have e1 := HE1.out
    simp only [Oper.gives]
    go_simp
    exact ⟨is_mk _ _, Touch.refl _ _⟩
  case o6 =>
    intro vals wq hRq hpq
    simp only [factsP, List.getD_cons_zero, List.getD_cons_succ] at hpq
    have f5 := hpq.1
    replace hpq := hpq.2
    clear hpq
    replace f5 : vals 5 = _ := f5
    simp only [List.getD_cons_zero, List.getD_cons_succ, canonP, f5]
    clear f5
    have e3 := HE3.out
    simp only [Oper.gives]
    go_simp
    exact ⟨is_mk _ _, Touch.refl _ _⟩
  case o7 =>
    intro vals wq hRq hpq
    simp only [factsP, List.getD_cons_zero, List.getD_cons_succ] at hpq
    have f6 := hpq.1
    replace hpq := hpq.2
    clear hpq
    replace f6 : vals 6 = _ := f6
    simp only [List.getD_cons_zero, List.getD_cons_succ, canonP, f6]
    clear f6
    have e5 := HE5.out
    simp only [Oper.gives]
    go_simp
    exact ⟨is_mk _ _, Touch.refl _ _⟩
  case o8 =>
    intro vals wq hRq hpq
    simp only [List.getD_cons_zero, List.getD_cons_succ, canonP]
    simp only [Oper.gives]
    go_simp
    exact ⟨is_mk _ _, (Touch.refl []) _⟩
  case o9 =>
    intro vals wq hRq hpq
    simp only [List.getD_cons_zero, List.getD_cons_succ, canonP]
    simp only [Oper.gives]
    go_simp
    exact ⟨is_mk _ _, (Touch.refl []) _⟩
  case o10 =>
    intro vals wq hRq hpq
    simp only [factsP, List.getD_cons_zero, List.getD_cons_succ] at hpq
    have f8 := hpq.1
    replace hpq := hpq.2
    have f9 := hpq.1
    replace hpq := hpq.2
    clear hpq
    replace f8 : vals 8 = _ := f8
    replace f9 : vals 9 = _ := f9
    simp only [List.getD_cons_zero, List.getD_cons_succ, canonP, f8, f9]
    clear f8 f9
    have b0 := HB0.out
    have b1 := HB1.out
    simp only [Oper.gives]
    go_simp
    exact ⟨is_mk _ _, Touch.refl _ _⟩
  case o11 =>
    intro vals wq hRq hpq
    simp only [factsP, List.getD_cons_zero, List.getD_cons_succ] at hpq
    have f10 := hpq.1
    replace hpq := hpq.2
    clear hpq
    replace f10 : vals 10 = _ := f10
    simp only [List.getD_cons_zero, List.getD_cons_succ, canonP, f10]
    clear f10
    simp only [Oper.gives]
    go_simp
    exact ⟨is_mk _ _, (Touch.refl []) _⟩
  case o12 =>
    intro vals wq hRq hpq
    simp only [factsP, List.getD_cons_zero, List.getD_cons_succ] at hpq
    have f11 := hpq.1
    replace hpq := hpq.2
    clear hpq
    replace f11 : vals 11 = _ := f11
    simp only [List.getD_cons_zero, List.getD_cons_succ, canonP, f11]
    clear f11
    have hcc : wq.cell? ⟨(y.add (i * 2)).block, (y.add (i * 2)).off + 1, none⟩ = some (.int .u32 (f : Int)) := (Touch.cell ((Touch.drew [] W1).trans hRq (by simp)) (a := (y.add (i * 2)).add 1) (by rw [add_block, add_block]; exact HPL.out) (by simp)).trans HP1.out
    simp only [Oper.gives]
    go_simp
    exact ⟨is_mk _ _, Touch.refl _ _⟩
  case o13 =>
    intro vals wq hRq hpq
    simp only [factsP, List.getD_cons_zero, List.getD_cons_succ] at hpq
    have f7 := hpq.1
    replace hpq := hpq.2
    have f12 := hpq.1
    replace hpq := hpq.2
    clear hpq
    replace f7 : vals 7 = _ := f7
    replace f12 : vals 12 = _ := f12
    simp only [List.getD_cons_zero, List.getD_cons_succ, canonP, f7, f12]
    clear f7 f12
    simp only [Oper.gives]
    go_simp
    exact ⟨is_mk _ _, Touch.refl _ _⟩
  case o14 =>
    intro vals wq hRq hpq
    simp only [List.getD_cons_zero, List.getD_cons_succ, canonP]
    have hsz := (((Touch.drew [] W1).trans hRq (by simp))).size
    simp only [Oper.gives]
    go_simp
    exact ⟨⟨_, rfl, hsz, by simp, heap_alloc_last _ _⟩, Touch.alloc _ _ _⟩
  intro vals wz hRwz hfwz
  simp only [AllFacts] at hfwz
  have g0 := hfwz.1
  replace hfwz := hfwz.2
  have g1 := hfwz.1
  replace hfwz := hfwz.2
  have g2 := hfwz.1
  replace hfwz := hfwz.2
  have g3 := hfwz.1
  replace hfwz := hfwz.2
  have g4 := hfwz.1
  replace hfwz := hfwz.2
  have g5 := hfwz.1
  replace hfwz := hfwz.2
  have g6 := hfwz.1
  replace hfwz := hfwz.2
  have g7 := hfwz.1
  replace hfwz := hfwz.2
  have g8 := hfwz.1
  replace hfwz := hfwz.2
  have g9 := hfwz.1
  replace hfwz := hfwz.2
  have g10 := hfwz.1
  replace hfwz := hfwz.2
  have g11 := hfwz.1
  replace hfwz := hfwz.2
  have g12 := hfwz.1
  replace hfwz := hfwz.2
  have g13 := hfwz.1
  replace hfwz := hfwz.2
  have g14 := hfwz.1
  replace hfwz := hfwz.2
  clear hfwz
  replace g0 : vals 0 = _ := g0
  replace g1 : vals 1 = _ := g1
  replace g2 : vals 2 = _ := g2
  replace g3 : vals 3 = _ := g3
  replace g4 : vals 4 = _ := g4
  replace g5 : vals 5 = _ := g5
  replace g6 : vals 6 = _ := g6
  replace g7 : vals 7 = _ := g7
  replace g8 : vals 8 = _ := g8
  replace g9 : vals 9 = _ := g9
  replace g10 : vals 10 = _ := g10
  replace g11 : vals 11 = _ := g11
  replace g12 : vals 12 = _ := g12
  replace g13 : vals 13 = _ := g13
  simp only [List.drop_succ_cons, List.drop_zero]
  simp only [canonP, Act.put, List.setIfInBounds_toArray, List.set_cons_succ, List.set_cons_zero, g0, g1, g2, g3, g4, g5, g6, g7, g8, g9, g10, g11, g12, g13]
  clear g0 g1 g2 g3 g4 g5 g6 g7 g8 g9 g10 g11 g12 g13
  unfold NewP at g14
  obtain ⟨g, hg, hg1, hg2, hg3⟩ := g14
  rw [hg]
  have hq := (Touch.drew [] W1).trans hRwz (by simp)
  have k0 := cell_at hg3 0
  have k1 := cell_at hg3 1
  have q0 := frozen_at hg3 0
  have q1 := frozen_at hg3 1
  simp only [List.getElem?_toArray, List.getElem?_cons_zero, List.getElem?_cons_succ] at k0 k1
  have h4 := heap_set (heap_set hg3 0 (.int .i64 c)) 1 (.int .u32 (f : Int))
  have ht : Touch [g] wz ((wz.setCell ⟨g, 0, none⟩ (.int .i64 c)).setCell ⟨g, 1, none⟩ (.int .u32 (f : Int))) := (Touch.setCell (S := [g]) wz (a := ⟨g, 0, none⟩) (by simp) _).trans (Touch.setCell (S := [g]) _ (a := ⟨g, 1, none⟩) (by simp) _) (fun i hi => .inl hi)
  have H4 := Lib.hid h4
  have HT := Lib.hid (hq.trans ht (by simpa using hg1))
  have HG1 := Lib.hid hg1
  clear h4 ht hq hg hg3 hg1
  go_wp2_with fail
  exact HK.out _ _ _ _ _ _ _ _ _ _ _ _ _ _ _ g HG1.out H4.out HT.out
#print axioms gets_reg10
noncomputable def gets_reg11Code : Code := regById 11 (codesOf (Try.f3.body.getD .skip))
set_option maxRecDepth 100000 in
set_option maxHeartbeats 4000000 in
theorem gets_reg11 (B X N seq f : Nat) (P : List Nat) (t t' : TS) (b : Int) (w0 : World) (W1 : World) (HC0 : Hid (X < W1.heap.size ∧ W1.cell? ⟨X, 0, none⟩ = some (.int .i64 b))) (HC1 : Hid (X < W1.heap.size ∧ W1.cell? ⟨X, 1, none⟩ = some (.int .u32 (f : Int)))) (HT : Hid (Live w0 P B N seq t W1)) (hN : N ≤ 100000) (hs : seq < 4294967296) (hb : IntOk b) (hf : f < 4294967296) (HQ : Hid (putT t b (fillB f) = (0, t')))
    (s0 s1 s2 s3 s4 s6 s7 s9 s10 s11 s12 s13 s14 s15 s16 s17 s18 s19 s20 s21 s22 s23 s24 s25 s26 s27 s28 s29 s30 s31 s32 s33 s34 s35 s36 s37 s38 s39 s40 s41 s42 s43 s44 s45 s46 s47 s48 s49 s50 s51 s52 s53 s54 s55 s56 s57 s58 s59 s60 s61 s62 s63 s64 s65 s66 s67 s68 s69 s70 s71 s72 s73 s74 s75 s76 s77 s78 s79 s80 s81 s82 s83 s84 s85 s86 s87 s88 s89 s90 s91 s92 s93 s94 s95 s96 s97 s98 s99 s100 s101 s102 s103 s104 s105 s106 s107 s108 s109 s110 s111 s112 s113 s114 s115 s116 s117 s118 s119 s120 s121 s122 s123 s124 s125 s126 s127 s128 s129 s130 s131 s132 s133 s134 s135 s136 s137 s138 s139 s140 s141 s142 s143 s144 s145 s146 s147 s148 s149 s150 s151 s152 s153 s154 s155 s156 s157 s158 s159 s160 s161 s162 s163 s164 s165 s166 s167 s168 s169 s170 s171 s172 s173 s174 s175 s176 s177 s178 s179 s180 s181 s182 s183 s184 s185 s186 s187 s188 s189 s190 s191 s192 : Value) (Q : Exit → Act → World → Prop) (HK : Hid (∀ u46 u47 u48 u49 u50 u51 u52 wz, Live w0 P B (N + 1) seq t' wz → Spare P W1 wz → Q .normal ⟨(s0 :: s1 :: s2 :: s3 :: s4 :: .pointer (some ⟨B, 0, none⟩) :: s6 :: s7 :: .pointer (some ⟨X, 0, none⟩) :: s9 :: s10 :: s11 :: s12 :: s13 :: s14 :: s15 :: s16 :: s17 :: s18 :: s19 :: s20 :: s21 :: s22 :: s23 :: s24 :: s25 :: s26 :: s27 :: s28 :: s29 :: s30 :: s31 :: s32 :: s33 :: s34 :: s35 :: s36 :: s37 :: s38 :: s39 :: s40 :: s41 :: s42 :: s43 :: s44 :: s45 :: u46 :: u47 :: u48 :: u49 :: u50 :: u51 :: u52 :: .bool false :: s54 :: s55 :: s56 :: s57 :: s58 :: s59 :: s60 :: s61 :: s62 :: s63 :: s64 :: s65 :: s66 :: s67 :: s68 :: s69 :: s70 :: s71 :: s72 :: s73 :: s74 :: s75 :: s76 :: s77 :: s78 :: s79 :: s80 :: s81 :: s82 :: s83 :: s84 :: s85 :: s86 :: s87 :: s88 :: s89 :: s90 :: s91 :: s92 :: s93 :: s94 :: s95 :: s96 :: s97 :: s98 :: s99 :: s100 :: s101 :: s102 :: s103 :: s104 :: s105 :: s106 :: s107 :: s108 :: s109 :: s110 :: s111 :: s112 :: s113 :: s114 :: s115 :: s116 :: s117 :: s118 :: s119 :: s120 :: s121 :: s122 :: s123 :: s124 :: s125 :: s126 :: s127 :: s128 :: s129 :: s130 :: s131 :: s132 :: s133 :: s134 :: s135 :: s136 :: s137 :: s138 :: s139 :: s140 :: s141 :: s142 :: s143 :: s144 :: s145 :: s146 :: s147 :: s148 :: s149 :: s150 :: s151 :: s152 :: s153 :: s154 :: s155 :: s156 :: s157 :: s158 :: s159 :: s160 :: s161 :: s162 :: s163 :: s164 :: s165 :: s166 :: s167 :: s168 :: s169 :: s170 :: s171 :: s172 :: s173 :: s174 :: s175 :: s176 :: s177 :: s178 :: s179 :: s180 :: s181 :: s182 :: s183 :: s184 :: s185 :: s186 :: s187 :: s188 :: s189 :: s190 :: s191 :: s192 :: []).toArray, []⟩ (wz))) : gets_reg11Code.wp Try.prog Q ⟨(s0 :: s1 :: s2 :: s3 :: s4 :: .pointer (some ⟨B, 0, none⟩) :: s6 :: s7 :: .pointer (some ⟨X, 0, none⟩) :: s9 :: s10 :: s11 :: s12 :: s13 :: s14 :: s15 :: s16 :: s17 :: s18 :: s19 :: s20 :: s21 :: s22 :: s23 :: s24 :: s25 :: s26 :: s27 :: s28 :: s29 :: s30 :: s31 :: s32 :: s33 :: s34 :: s35 :: s36 :: s37 :: s38 :: s39 :: s40 :: s41 :: s42 :: s43 :: s44 :: s45 :: s46 :: s47 :: s48 :: s49 :: s50 :: s51 :: s52 :: s53 :: s54 :: s55 :: s56 :: s57 :: s58 :: s59 :: s60 :: s61 :: s62 :: s63 :: s64 :: s65 :: s66 :: s67 :: s68 :: s69 :: s70 :: s71 :: s72 :: s73 :: s74 :: s75 :: s76 :: s77 :: s78 :: s79 :: s80 :: s81 :: s82 :: s83 :: s84 :: s85 :: s86 :: s87 :: s88 :: s89 :: s90 :: s91 :: s92 :: s93 :: s94 :: s95 :: s96 :: s97 :: s98 :: s99 :: s100 :: s101 :: s102 :: s103 :: s104 :: s105 :: s106 :: s107 :: s108 :: s109 :: s110 :: s111 :: s112 :: s113 :: s114 :: s115 :: s116 :: s117 :: s118 :: s119 :: s120 :: s121 :: s122 :: s123 :: s124 :: s125 :: s126 :: s127 :: s128 :: s129 :: s130 :: s131 :: s132 :: s133 :: s134 :: s135 :: s136 :: s137 :: s138 :: s139 :: s140 :: s141 :: s142 :: s143 :: s144 :: s145 :: s146 :: s147 :: s148 :: s149 :: s150 :: s151 :: s152 :: s153 :: s154 :: s155 :: s156 :: s157 :: s158 :: s159 :: s160 :: s161 :: s162 :: s163 :: s164 :: s165 :: s166 :: s167 :: s168 :: s169 :: s170 :: s171 :: s172 :: s173 :: s174 :: s175 :: s176 :: s177 :: s178 :: s179 :: s180 :: s181 :: s182 :: s183 :: s184 :: s185 :: s186 :: s187 :: s188 :: s189 :: s190 :: s191 :: s192 :: []).toArray, []⟩ W1 := by
  conv => arg 2; whnf
  refine wp_region_facts_tail 6 (by kernel_rfl) (by kernel_rfl) [[], [], [(1, some 47)], [], [(3, some 49)], [(4, some 50)]] [(0, some 46), (1, some 47), (2, some 48), (3, some 49), (4, some 50), (5, some 51)] (by kernel_rfl) (by kernel_rfl) (by kernel_rfl) (Touch []) (Touch.refl []) (fun _ _ _ h h' => h.trans h' (fun i hi => .inl hi)) [Is (Value.pointer (some ⟨B, 0, none⟩)), Is (Value.pointer (some ⟨X, 0, none⟩)), Is (Value.int .i64 b), Is (Value.pointer (some ⟨X, 1, none⟩)), Is (Value.int .u32 (f : Int)), Is (Value.agg (bc (fillB f)).toArray)] rfl ⟨is_stab _ _, is_stab _ _, is_stab _ _, is_stab _ _, is_stab _ _, is_stab _ _, trivial⟩ ⟨?o0, ?o1, ?o2, ?o3, ?o4, ?o5, trivial⟩ ?_
  case o0 =>
    intro vals wq hRq hpq
    simp only [List.getD_cons_zero, List.getD_cons_succ, canonP]
    simp only [Oper.gives]
    go_simp
    exact ⟨is_mk _ _, (Touch.refl []) _⟩
  case o1 =>
    intro vals wq hRq hpq
    simp only [List.getD_cons_zero, List.getD_cons_succ, canonP]
    simp only [Oper.gives]
    go_simp
    exact ⟨is_mk _ _, (Touch.refl []) _⟩
  case o2 =>
    intro vals wq hRq hpq
    simp only [factsP, List.getD_cons_zero, List.getD_cons_succ] at hpq
    have f1 := hpq.1
    replace hpq := hpq.2
    clear hpq
    replace f1 : vals 1 = _ := f1
    simp only [List.getD_cons_zero, List.getD_cons_succ, canonP, f1]
    clear f1
    have hcc : wq.cell? ⟨X, 0, none⟩ = some (.int .i64 b) := (Touch.cell ((Touch.drew [] W1).trans hRq (by simp)) (a := ⟨X, 0, none⟩) HC0.out.1 (by simp)).trans HC0.out.2
    simp only [Oper.gives]
    go_simp
    exact ⟨is_mk _ _, Touch.refl _ _⟩
  case o3 =>
    intro vals wq hRq hpq
    simp only [List.getD_cons_zero, List.getD_cons_succ, canonP]
    simp only [Oper.gives]
    go_simp
    exact ⟨is_mk _ _, (Touch.refl []) _⟩
  case o4 =>
    intro vals wq hRq hpq
    simp only [factsP, List.getD_cons_zero, List.getD_cons_succ] at hpq
    have f3 := hpq.1
    replace hpq := hpq.2
    clear hpq
    replace f3 : vals 3 = _ := f3
    simp only [List.getD_cons_zero, List.getD_cons_succ, canonP, f3]
    clear f3
    have hcc : wq.cell? ⟨X, 1, none⟩ = some (.int .u32 (f : Int)) := (Touch.cell ((Touch.drew [] W1).trans hRq (by simp)) (a := ⟨X, 1, none⟩) HC1.out.1 (by simp)).trans HC1.out.2
    simp only [Oper.gives]
    go_simp
    exact ⟨is_mk _ _, Touch.refl _ _⟩
  case o5 =>
    intro vals wq hRq hpq
    simp only [factsP, List.getD_cons_zero, List.getD_cons_succ] at hpq
    have f4 := hpq.1
    replace hpq := hpq.2
    clear hpq
    replace f4 : vals 4 = _ := f4
    simp only [List.getD_cons_zero, List.getD_cons_succ, canonP, f4]
    clear f4
    simp only [Oper.gives]
    go_simp
    exact (fill_any f hf wq).mono fun e w' ⟨he, hg⟩ => ⟨_, he, is_mk _ _, Touch.of_below hg⟩
  intro vals wz hRwz hfwz
  simp only [AllFacts] at hfwz
  have g0 := hfwz.1
  replace hfwz := hfwz.2
  have g1 := hfwz.1
  replace hfwz := hfwz.2
  have g2 := hfwz.1
  replace hfwz := hfwz.2
  have g3 := hfwz.1
  replace hfwz := hfwz.2
  have g4 := hfwz.1
  replace hfwz := hfwz.2
  have g5 := hfwz.1
  replace hfwz := hfwz.2
  clear hfwz
  replace g0 : vals 0 = _ := g0
  replace g1 : vals 1 = _ := g1
  replace g2 : vals 2 = _ := g2
  replace g3 : vals 3 = _ := g3
  replace g4 : vals 4 = _ := g4
  replace g5 : vals 5 = _ := g5
  simp only [List.drop_succ_cons, List.drop_zero]
  simp only [canonP, Act.put, List.setIfInBounds_toArray, List.set_cons_succ, List.set_cons_zero, g0, g1, g2, g3, g4, g5]
  clear g0 g1 g2 g3 g4 g5
  have hq := (Touch.drew [] W1).trans hRwz (by simp)
  have HT2 := Lib.hid (HT.out.later hq.grow)
  have HF := Lib.hid (fillB_length f)
  generalize fillB f = x at *
  go_wp2_with fail
  refine (HT2.out.put_ hN hs hb HF.out).mono ?_
  intro e w2 hp
  unfold LPost at hp
  rw [HQ.out] at hp
  obtain ⟨rfl, hL, hS⟩ := hp
  have H1 := Lib.hid hL
  have H2 := Lib.hid ((Spare.grow hq.grow).trans hS)
  clear hL hS hq
  go_wp2_with fail
  exact HK.out _ _ _ _ _ _ _ _ H1.out H2.out
#print axioms gets_reg11
end Go.Proofs.Ytnogajnoghjmhaa
