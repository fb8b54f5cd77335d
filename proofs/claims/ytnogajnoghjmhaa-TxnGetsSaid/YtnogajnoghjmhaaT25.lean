/- The law TxnForgets: the plain side; its last region over letters. -/
import Derived.Test.YtnogajnoghjmhaaT24
set_option linter.unusedVariables false
set_option linter.unusedSimpArgs false
namespace Go.Proofs.Ytnogajnoghjmhaa
open Go.RowKit Go.Maps

def RowA (zs : List Int) (v : Value) (wx : World) : Prop := IRow wx v zs
theorem gives_len_row {o : Oper} {a : Act} {w : World} {T : Value → World → Prop} (x : Operand) (ho : o.op = .call { callee := .builtin .len, args := #[x], argTypes := #[37] }) {v : Value} {zs : List Int} (hx : a.eval x = v) (hr : IRow w v zs) {n : Nat} (hn : zs.length = n) (hT : T (.int .i64 (n : Int)) w) : Oper.gives Try.prog o a w T := by
  obtain ⟨p, c, rfl⟩ := hr.len
  rw [hn] at hx
  refine gives_run (v := .int .i64 (n : Int)) (w' := w) ?_ hT
  unfold execOp
  simp [ho, resolve, invoke, builtin, hx, Builtin.len_, run_underlying Try.underlying37, goInt, Result.andThen]
theorem eqlBlk (x y : Blk) (hx : x.length = 256) (hy : y.length = 256) (w : World) : (binOp .eql 33 (.agg (bc x).toArray) (.agg (bc y).toArray)).run Try.prog w = .ok (.bool (decide (x = y))) w := by
  rw [run_eql_struct, equalB x y hx hy 9998]; rfl
/-- a handle that speaks of one block alone -/
structure FInv (b : Int) (k : Nat) (was : Bool) (t : TS) : Prop where
  ex : ∃ s rv did, t = .o s noPS 1 rv did ∧ 100 ≤ rv + k ∧ (∀ i ∈ keysA did, i = b) ∧ (∀ i ∈ keysA s.fr, i = b) ∧ (∀ i ∈ s.rv, i = b) ∧ (b ∈ s.rv ↔ was = true)
theorem FInv.start (b : Int) : FInv b 0 false (.o noPS noPS 1 100 []) := ⟨⟨_, _, _, rfl, by omega, by simp [keysA], by simp [noPS, keysA], by simp [noPS], by simp [noPS]⟩⟩
theorem no_keys {l : List (Int × Unit)} {b : Int} (h : ∀ i ∈ keysA l, i = b) (hb : b ∉ keysA l) : l = [] := by
  cases l with
  | nil => rfl
  | cons p l => exact absurd (h p.1 (by simp [keysA])) (fun e => hb (by rw [← e]; simp [keysA]))
theorem FInv.put {b : Int} {k : Nat} {was : Bool} {t : TS} (h : FInv b k was t) (h0 : 0 ≤ b) (x : Blk) : ∃ t', putT t b x = (0, t') ∧ FInv b (k + 1) false t' ∧ b ∈ keysA t'.now.ch ∧ lookA t'.now.ch b = some x ∧ t'.now.fr = [] ∧ t'.now.rv = [] := by
  obtain ⟨s, rv, did, rfl, h1, h2, h3, h4, h5⟩ := h.ex
  unfold putT
  dsimp only
  rw [if_neg (by omega), if_neg]
  · have hfr : delA s.fr b = [] := no_keys (b := b) (fun i hi => h3 i (mem_keysA_del.1 hi).1) (fun hm => (mem_keysA_del.1 hm).2 rfl)
    have hrv : delS s.rv b = [] := List.eq_nil_iff_forall_not_mem.2 fun i hi => (mem_delS.1 hi).2 (h4 i (mem_delS.1 hi).1)
    refine ⟨_, rfl, ⟨⟨_, _, _, rfl, by omega, fun i hi => ?_, fun i hi => ?_, fun i hi => ?_, ?_⟩⟩, mem_keysA_ins.2 (.inr rfl), ?_, hfr, hrv⟩
    · rcases mem_keysA_ins.1 hi with h6 | h6
      · exact h2 i h6
      · exact h6
    · exact h3 i (mem_keysA_del.1 hi).1
    · exact h4 i (mem_delS.1 hi).1
    · show b ∈ delS s.rv b ↔ _
      rw [mem_delS]; simp
    · show lookA (insA s.ch b x) b = _
      rw [lookA_ins]; exact putG_same _ _ _
  · rintro ⟨c1, c2⟩
    rw [no_keys h2 c1] at c2
    exact absurd c2 (by simp)
theorem FInv.order {b : Int} {k : Nat} {was : Bool} {t : TS} (h : FInv b k was t) (h0 : 0 ≤ b) : ∃ t', orderT t b = (0, t') ∧ FInv b (k + 1) was t' := by
  obtain ⟨s, rv, did, rfl, h1, h2, h3, h4, h5⟩ := h.ex
  unfold orderT
  dsimp only
  rw [if_neg (by omega)]
  exact ⟨_, rfl, ⟨⟨_, _, _, rfl, by omega, h2, h3, h4, h5⟩⟩⟩
theorem FInv.forget {b : Int} {k : Nat} {was : Bool} {t : TS} (h : FInv b k was t) (h0 : 0 ≤ b) (hk : k < 100) (r : Bool) : ∃ t', forgetT t b r = (0, t') ∧ FInv b (k + 1) (was || r) t' ∧ b ∉ keysA t'.now.ch ∧ b ∉ keysA t'.now.od ∧ b ∈ keysA t'.now.fr ∧ (b ∈ t'.now.rv ↔ (was || r) = true) := by
  obtain ⟨s, rv, did, rfl, h1, h2, h3, h4, h5⟩ := h.ex
  unfold forgetT
  dsimp only
  rw [if_neg (by omega), if_neg (by omega)]
  have h6 : b ∈ (if r then insS s.rv b else s.rv) ↔ (was || r) = true := by
    cases r
    · simpa using h5
    · simp [mem_insS]
  refine ⟨_, rfl, ⟨⟨_, _, _, rfl, by omega, h2, fun i hi => ?_, fun i hi => ?_, h6⟩⟩, fun hm => (mem_keysA_del.1 hm).2 rfl, fun hm => (mem_keysA_del.1 hm).2 rfl, mem_keysA_ins.2 (.inr rfl), h6⟩
  · rcases mem_keysA_ins.1 hi with h7 | h7
    · exact h3 i h7
    · exact h7
  · cases r
    · exact h4 i hi
    · rcases mem_insS.1 hi with h7 | h7
      · exact h4 i h7
      · exact h7
theorem not_void {s : PS} {b : Int} (h : b ∈ keysA s.ch) : s.void = false := by
  have hl : 0 < s.ch.length := by rw [← keysA_length]; exact List.length_pos_of_mem h
  unfold PS.void
  rw [show ((s.ch.length : Int) == 0) = false from beq_eq_false_iff_ne.2 (by omega)]
  rfl
/-- bytes that came in -/
def U8sIn (w : World) (v : Value) (l : List Nat) : Prop := ∃ a cap, v = .slice a l.length cap ∧ ∀ (i p : Nat), l[i]? = some p → ∃ y : Addr, a = some y ∧ y.block < w.heap.size ∧ w.cell? (y.add i) = some (.int .u8 (p : Int)) ∧ p < 256
theorem U8sIn.len {w : World} {v : Value} {l : List Nat} (h : U8sIn w v l) : ∃ a cap, v = .slice a l.length cap := by
  obtain ⟨a, cap, hv, _⟩ := h
  exact ⟨a, cap, hv⟩
theorem U8sIn.at_ {w : World} {v : Value} {l : List Nat} (h : U8sIn w v l) {i p : Nat} (hp : l[i]? = some p) : ∃ y cap, v = .slice (some y) l.length cap ∧ y.block < w.heap.size ∧ w.cell? (y.add i) = some (.int .u8 (p : Int)) ∧ p < 256 := by
  obtain ⟨a, cap, hv, h⟩ := h
  obtain ⟨y, rfl, h1, h2⟩ := h i p hp
  exact ⟨y, cap, hv, h1, h2⟩
noncomputable def forgets_reg27Code : Code := regById 27 (codesOf (Try.f4.body.getD .skip))
set_option maxRecDepth 100000 in
set_option maxHeartbeats 4000000 in
theorem forgets_reg27 (B BX N seq : Nat) (F2 : Blk) (t : TS) (w0 : World) (W1 : World) (HF2 : Hid (fillB 2 = F2)) (HL : Hid (Live w0 [] B N seq t W1)) (hN : N ≤ 100000) (HX : Hid (BX < W1.heap.size ∧ W1.heap[BX]? = some (.cells (bc F2).toArray 33))) (HSz : Hid ((Try.prog.info? 33).map (·.size) = some (bc F2).toArray.size)) (HEQ : Hid (∀ w, (binOp .eql 33 (.agg (bc F2).toArray) (.agg (bc F2).toArray)).run Try.prog w = .ok (.bool true) w)) (HF : Hid (sortI (keysA t.now.fr) = [])) (HR : Hid (t.now.rv = [])) (HV : Hid (t.now.void = false))
    (s0 s1 s2 s3 s4 s5 s6 s7 s8 s10 s11 s12 s13 s16 s17 s18 s19 s20 s21 s22 s23 s24 s25 s26 s27 s28 s29 s30 s31 s32 s33 s34 s35 s36 s37 s38 s39 s40 s41 s42 s43 s44 s45 s46 s47 s48 s49 s50 s51 s52 s53 s54 s55 s56 s57 s58 s59 s60 s61 s62 s63 s64 s65 s66 s67 s68 s69 s70 s71 s72 s73 s74 s75 s76 s77 s78 s79 s80 s81 s82 s83 s84 s85 s86 s87 s88 s89 s90 s91 s92 s93 s94 s95 s96 s97 s98 s99 s100 s101 s102 s103 s104 s105 s106 s107 s108 s109 s110 s111 s112 s113 s114 s115 s116 s117 s118 s119 s120 s121 s122 s123 s124 s125 s126 s127 s128 s129 s130 s131 s132 s133 s134 s135 s136 s137 s138 s139 s140 s141 s142 s143 s144 : Value) (Q : Exit → Act → World → Prop) (HK : Hid (∀ u122 u123 u124 u125 u126 u127 u128 u129 u130 u131 u132 u133 u134 u135 u136 u137 u138 u139 u140 u141 u142 u143 wz, Touch [] W1 wz → Q .normal ⟨(s0 :: s1 :: s2 :: s3 :: s4 :: s5 :: s6 :: s7 :: .bool true :: .pointer (some ⟨B, 0, none⟩) :: s10 :: s11 :: s12 :: s13 :: .pointer (some ⟨BX, 0, none⟩) :: .bool true :: s16 :: s17 :: s18 :: s19 :: s20 :: s21 :: s22 :: s23 :: s24 :: s25 :: s26 :: s27 :: s28 :: s29 :: s30 :: s31 :: s32 :: s33 :: s34 :: s35 :: s36 :: s37 :: s38 :: s39 :: s40 :: s41 :: s42 :: s43 :: s44 :: s45 :: s46 :: s47 :: s48 :: s49 :: s50 :: s51 :: s52 :: s53 :: s54 :: s55 :: s56 :: s57 :: s58 :: s59 :: s60 :: s61 :: s62 :: s63 :: s64 :: s65 :: s66 :: s67 :: s68 :: s69 :: s70 :: s71 :: s72 :: s73 :: s74 :: s75 :: s76 :: s77 :: s78 :: s79 :: s80 :: s81 :: s82 :: s83 :: s84 :: s85 :: s86 :: s87 :: s88 :: s89 :: s90 :: s91 :: s92 :: s93 :: s94 :: s95 :: s96 :: s97 :: s98 :: s99 :: s100 :: s101 :: s102 :: s103 :: s104 :: s105 :: s106 :: s107 :: s108 :: s109 :: s110 :: s111 :: s112 :: s113 :: s114 :: s115 :: s116 :: s117 :: s118 :: s119 :: s120 :: s121 :: u122 :: u123 :: u124 :: u125 :: u126 :: u127 :: u128 :: u129 :: u130 :: u131 :: u132 :: u133 :: u134 :: u135 :: u136 :: u137 :: u138 :: u139 :: u140 :: u141 :: u142 :: u143 :: .bool true :: []).toArray, []⟩ (wz))) : forgets_reg27Code.wp Try.prog Q ⟨(s0 :: s1 :: s2 :: s3 :: s4 :: s5 :: s6 :: s7 :: s8 :: .pointer (some ⟨B, 0, none⟩) :: s10 :: s11 :: s12 :: s13 :: .pointer (some ⟨BX, 0, none⟩) :: .bool true :: s16 :: s17 :: s18 :: s19 :: s20 :: s21 :: s22 :: s23 :: s24 :: s25 :: s26 :: s27 :: s28 :: s29 :: s30 :: s31 :: s32 :: s33 :: s34 :: s35 :: s36 :: s37 :: s38 :: s39 :: s40 :: s41 :: s42 :: s43 :: s44 :: s45 :: s46 :: s47 :: s48 :: s49 :: s50 :: s51 :: s52 :: s53 :: s54 :: s55 :: s56 :: s57 :: s58 :: s59 :: s60 :: s61 :: s62 :: s63 :: s64 :: s65 :: s66 :: s67 :: s68 :: s69 :: s70 :: s71 :: s72 :: s73 :: s74 :: s75 :: s76 :: s77 :: s78 :: s79 :: s80 :: s81 :: s82 :: s83 :: s84 :: s85 :: s86 :: s87 :: s88 :: s89 :: s90 :: s91 :: s92 :: s93 :: s94 :: s95 :: s96 :: s97 :: s98 :: s99 :: s100 :: s101 :: s102 :: s103 :: s104 :: s105 :: s106 :: s107 :: s108 :: s109 :: s110 :: s111 :: s112 :: s113 :: s114 :: s115 :: s116 :: s117 :: s118 :: s119 :: s120 :: s121 :: s122 :: s123 :: s124 :: s125 :: s126 :: s127 :: s128 :: s129 :: s130 :: s131 :: s132 :: s133 :: s134 :: s135 :: s136 :: s137 :: s138 :: s139 :: s140 :: s141 :: s142 :: s143 :: s144 :: []).toArray, []⟩ W1 := by
  conv => arg 2; whnf
  refine wp_region_facts (by kernel_rfl) [[], [(0, some 122)], [(1, some 123)], [(1, some 123)], [(1, some 123), (2, some 124), (3, some 125)], [(1, some 123), (4, some 126)], [(3, some 125), (5, some 127)], [(6, some 128)], [(6, some 128), (7, some 129)], [(6, some 128), (8, some 130)], [(6, some 128), (9, some 131)], [(6, some 128), (10, some 132)], [(8, some 130), (11, some 133)], [(12, some 134)], [(12, some 134), (13, some 135)], [(12, some 134), (14, some 136)], [(12, some 134), (15, some 137)], [(12, some 134), (16, some 138)], [(14, some 136), (17, some 139)], [(18, some 140)], [(18, some 140), (19, some 141)], [(18, some 140), (20, some 142)], [(18, some 140), (21, some 143)], [(0, some 122), (1, some 123), (2, some 124), (3, some 125), (4, some 126), (5, some 127), (6, some 128), (7, some 129), (8, some 130), (9, some 131), (10, some 132), (11, some 133), (12, some 134), (13, some 135), (14, some 136), (15, some 137), (16, some 138), (17, some 139), (18, some 140), (19, some 141), (20, some 142), (21, some 143), (22, some 144)]] [(0, some 122), (1, some 123), (2, some 124), (3, some 125), (4, some 126), (5, some 127), (6, some 128), (7, some 129), (8, some 130), (9, some 131), (10, some 132), (11, some 133), (12, some 134), (13, some 135), (14, some 136), (15, some 137), (16, some 138), (17, some 139), (18, some 140), (19, some 141), (20, some 142), (21, some 143), (22, some 144), (23, some 8)] (by kernel_rfl) (by kernel_rfl) (by kernel_rfl) (Touch []) (Touch.refl []) (fun _ _ _ h h' => h.trans h' (fun i hi => .inl hi)) [Is (Value.bool true), Is (Value.bool true), Is (Value.agg (bc F2).toArray), Is (Value.agg (bc F2).toArray), Is (Value.bool true), Is (Value.bool true), Is (Value.bool true), Is (Value.pointer (some ⟨B, 0, none⟩)), (RowA []), Is (Value.int .i64 0), Is (Value.bool true), Is (Value.bool true), Is (Value.bool true), Is (Value.pointer (some ⟨B, 0, none⟩)), (RowA []), Is (Value.int .i64 0), Is (Value.bool true), Is (Value.bool true), Is (Value.bool true), Is (Value.pointer (some ⟨B, 0, none⟩)), Is (Value.bool false), Is (Value.bool true), Is (Value.bool true), Is (Value.bool true)] rfl ⟨is_stab _ _, is_stab _ _, is_stab _ _, is_stab _ _, is_stab _ _, is_stab _ _, is_stab _ _, is_stab _ _, (fun v wa wb hab h => Row.kept h hab (by simp)), is_stab _ _, is_stab _ _, is_stab _ _, is_stab _ _, is_stab _ _, (fun v wa wb hab h => Row.kept h hab (by simp)), is_stab _ _, is_stab _ _, is_stab _ _, is_stab _ _, is_stab _ _, is_stab _ _, is_stab _ _, is_stab _ _, is_stab _ _, trivial⟩ ⟨?o0, ?o1, ?o2, ?o3, ?o4, ?o5, ?o6, ?o7, ?o8, ?o9, ?o10, ?o11, ?o12, ?o13, ?o14, ?o15, ?o16, ?o17, ?o18, ?o19, ?o20, ?o21, ?o22, ?o23, trivial⟩ ?_
  case o0 =>
    intro vals wq hRq hpq
    simp only [List.getD_cons_zero, List.getD_cons_succ, canonP]
    simp only [Oper.gives]
    go_simp
    exact ⟨is_mk _ _, (Touch.refl []) _⟩
  case o1 =>
    intro vals wq hRq hpq
    simp only [factsP, List.getD_cons_zero, List.getD_cons_succ] at hpq
    have f0 := hpq.1
    replace hpq := hpq.2
    clear hpq
    replace f0 : vals 0 = _ := f0
    simp only [List.getD_cons_zero, List.getD_cons_succ, canonP, f0]
    clear f0
    simp only [Oper.gives]
    go_simp
    exact ⟨is_mk _ _, (Touch.refl []) _⟩
  case o2 =>
    intro vals wq hRq hpq
    simp only [factsP, List.getD_cons_zero, List.getD_cons_succ] at hpq
    have f1 := hpq.1
    replace hpq := hpq.2
    clear hpq
    replace f1 : vals 1 = _ := f1
    simp only [List.getD_cons_zero, List.getD_cons_succ, canonP, f1]
    clear f1
    have hbx : wq.heap[BX]? = some (.cells (bc F2).toArray 33) := (Touch.block ((Touch.drew [] W1).trans hRq (by simp)) BX HX.out.1 (by simp)).trans HX.out.2
    rw [if_pos (by rfl)]
    exact gives_load_row 33 _ rfl BX rfl 33 (bc F2).toArray (0, 0) _ hbx Try.underlying33 rfl HSz.out ⟨is_mk _ _, Touch.refl _ _⟩
  case o3 =>
    intro vals wq hRq hpq
    simp only [factsP, List.getD_cons_zero, List.getD_cons_succ] at hpq
    have f1 := hpq.1
    replace hpq := hpq.2
    clear hpq
    replace f1 : vals 1 = _ := f1
    simp only [List.getD_cons_zero, List.getD_cons_succ, canonP, f1]
    clear f1
    have hcal := fill_any 2 (by omega) wq
    rw [HF2.out] at hcal
    simp only [Oper.gives]
    go_simp
    exact hcal.mono fun e w' ⟨he, hg⟩ => ⟨_, he, is_mk _ _, Touch.of_below hg⟩
  case o4 =>
    intro vals wq hRq hpq
    simp only [factsP, List.getD_cons_zero, List.getD_cons_succ] at hpq
    have f1 := hpq.1
    replace hpq := hpq.2
    have f2 := hpq.1
    replace hpq := hpq.2
    have f3 := hpq.1
    replace hpq := hpq.2
    clear hpq
    replace f1 : vals 1 = _ := f1
    replace f2 : vals 2 = _ := f2
    replace f3 : vals 3 = _ := f3
    simp only [List.getD_cons_zero, List.getD_cons_succ, canonP, f1, f2, f3]
    clear f1 f2 f3
    rw [if_pos (by rfl)]
    exact gives_binOp .eql 33 _ _ _ rfl _ _ rfl rfl (gB _ _ _ _ _ wq) (HEQ.out wq) ⟨is_mk _ _, Touch.refl _ _⟩
  case o5 =>
    intro vals wq hRq hpq
    simp only [factsP, List.getD_cons_zero, List.getD_cons_succ] at hpq
    have f1 := hpq.1
    replace hpq := hpq.2
    have f4 := hpq.1
    replace hpq := hpq.2
    clear hpq
    replace f1 : vals 1 = _ := f1
    replace f4 : vals 4 = _ := f4
    simp only [List.getD_cons_zero, List.getD_cons_succ, canonP, f1, f4]
    clear f1 f4
    simp only [Oper.gives]
    go_simp
    exact ⟨is_mk _ _, (Touch.refl []) _⟩
  case o6 =>
    intro vals wq hRq hpq
    simp only [factsP, List.getD_cons_zero, List.getD_cons_succ] at hpq
    have f3 := hpq.1
    replace hpq := hpq.2
    have f5 := hpq.1
    replace hpq := hpq.2
    clear hpq
    replace f3 : vals 3 = _ := f3
    replace f5 : vals 5 = _ := f5
    simp only [List.getD_cons_zero, List.getD_cons_succ, canonP, f3, f5]
    clear f3 f5
    simp only [Oper.gives]
    go_simp
    exact ⟨is_mk _ _, (Touch.refl []) _⟩
  case o7 =>
    intro vals wq hRq hpq
    simp only [factsP, List.getD_cons_zero, List.getD_cons_succ] at hpq
    have f6 := hpq.1
    replace hpq := hpq.2
    clear hpq
    replace f6 : vals 6 = _ := f6
    simp only [List.getD_cons_zero, List.getD_cons_succ, canonP, f6]
    clear f6
    simp only [Oper.gives]
    go_simp
    exact ⟨is_mk _ _, (Touch.refl []) _⟩
  case o8 =>
    intro vals wq hRq hpq
    simp only [factsP, List.getD_cons_zero, List.getD_cons_succ] at hpq
    have f6 := hpq.1
    replace hpq := hpq.2
    have f7 := hpq.1
    replace hpq := hpq.2
    clear hpq
    replace f6 : vals 6 = _ := f6
    replace f7 : vals 7 = _ := f7
    simp only [List.getD_cons_zero, List.getD_cons_succ, canonP, f6, f7]
    clear f6 f7
    have hL := (HL.out.later (((Touch.drew [] W1).trans hRq (by simp)).below (Nat.le_refl _) (by simp)))
    simp only [Oper.gives]
    go_simp
    refine (hL.freed hN).mono ?_
    rintro e w' ⟨v, rfl, h1, h2, _⟩
    rw [HF.out] at h1
    exact ⟨_, rfl, h1, Touch.of_below h2⟩
  case o9 =>
    intro vals wq hRq hpq
    simp only [factsP, List.getD_cons_zero, List.getD_cons_succ] at hpq
    have f6 := hpq.1
    replace hpq := hpq.2
    have f8 := hpq.1
    replace hpq := hpq.2
    clear hpq
    replace f6 : vals 6 = _ := f6
    simp only [List.getD_cons_zero, List.getD_cons_succ, canonP, f6]
    clear f6
    rw [if_pos (by rfl)]
    exact gives_len_row _ rfl rfl f8 (n := 0) rfl ⟨is_mk _ _, Touch.refl _ _⟩
  case o10 =>
    intro vals wq hRq hpq
    simp only [factsP, List.getD_cons_zero, List.getD_cons_succ] at hpq
    have f6 := hpq.1
    replace hpq := hpq.2
    have f9 := hpq.1
    replace hpq := hpq.2
    clear hpq
    replace f6 : vals 6 = _ := f6
    replace f9 : vals 9 = _ := f9
    simp only [List.getD_cons_zero, List.getD_cons_succ, canonP, f6, f9]
    clear f6 f9
    simp only [Oper.gives]
    go_simp
    exact ⟨is_mk _ _, (Touch.refl []) _⟩
  case o11 =>
    intro vals wq hRq hpq
    simp only [factsP, List.getD_cons_zero, List.getD_cons_succ] at hpq
    have f6 := hpq.1
    replace hpq := hpq.2
    have f10 := hpq.1
    replace hpq := hpq.2
    clear hpq
    replace f6 : vals 6 = _ := f6
    replace f10 : vals 10 = _ := f10
    simp only [List.getD_cons_zero, List.getD_cons_succ, canonP, f6, f10]
    clear f6 f10
    simp only [Oper.gives]
    go_simp
    exact ⟨is_mk _ _, (Touch.refl []) _⟩
  case o12 =>
    intro vals wq hRq hpq
    simp only [factsP, List.getD_cons_zero, List.getD_cons_succ] at hpq
    have f8 := hpq.1
    replace hpq := hpq.2
    have f11 := hpq.1
    replace hpq := hpq.2
    clear hpq
    replace f11 : vals 11 = _ := f11
    simp only [List.getD_cons_zero, List.getD_cons_succ, canonP, f11]
    clear f11
    simp only [Oper.gives]
    go_simp
    exact ⟨is_mk _ _, (Touch.refl []) _⟩
  case o13 =>
    intro vals wq hRq hpq
    simp only [factsP, List.getD_cons_zero, List.getD_cons_succ] at hpq
    have f12 := hpq.1
    replace hpq := hpq.2
    clear hpq
    replace f12 : vals 12 = _ := f12
    simp only [List.getD_cons_zero, List.getD_cons_succ, canonP, f12]
    clear f12
    simp only [Oper.gives]
    go_simp
    exact ⟨is_mk _ _, (Touch.refl []) _⟩
  case o14 =>
    intro vals wq hRq hpq
    simp only [factsP, List.getD_cons_zero, List.getD_cons_succ] at hpq
    have f12 := hpq.1
    replace hpq := hpq.2
    have f13 := hpq.1
    replace hpq := hpq.2
    clear hpq
    replace f12 : vals 12 = _ := f12
    replace f13 : vals 13 = _ := f13
    simp only [List.getD_cons_zero, List.getD_cons_succ, canonP, f12, f13]
    clear f12 f13
    have hL := (HL.out.later (((Touch.drew [] W1).trans hRq (by simp)).below (Nat.le_refl _) (by simp)))
    simp only [Oper.gives]
    go_simp
    refine (hL.revoked hN).mono ?_
    rintro e w' ⟨v, rfl, h1, h2, _⟩
    rw [HR.out] at h1
    exact ⟨_, rfl, h1, Touch.of_below h2⟩
  case o15 =>
    intro vals wq hRq hpq
    simp only [factsP, List.getD_cons_zero, List.getD_cons_succ] at hpq
    have f12 := hpq.1
    replace hpq := hpq.2
    have f14 := hpq.1
    replace hpq := hpq.2
    clear hpq
    replace f12 : vals 12 = _ := f12
    simp only [List.getD_cons_zero, List.getD_cons_succ, canonP, f12]
    clear f12
    rw [if_pos (by rfl)]
    exact gives_len_row _ rfl rfl f14 (n := 0) rfl ⟨is_mk _ _, Touch.refl _ _⟩
  case o16 =>
    intro vals wq hRq hpq
    simp only [factsP, List.getD_cons_zero, List.getD_cons_succ] at hpq
    have f12 := hpq.1
    replace hpq := hpq.2
    have f15 := hpq.1
    replace hpq := hpq.2
    clear hpq
    replace f12 : vals 12 = _ := f12
    replace f15 : vals 15 = _ := f15
    simp only [List.getD_cons_zero, List.getD_cons_succ, canonP, f12, f15]
    clear f12 f15
    simp only [Oper.gives]
    go_simp
    exact ⟨is_mk _ _, (Touch.refl []) _⟩
  case o17 =>
    intro vals wq hRq hpq
    simp only [factsP, List.getD_cons_zero, List.getD_cons_succ] at hpq
    have f12 := hpq.1
    replace hpq := hpq.2
    have f16 := hpq.1
    replace hpq := hpq.2
    clear hpq
    replace f12 : vals 12 = _ := f12
    replace f16 : vals 16 = _ := f16
    simp only [List.getD_cons_zero, List.getD_cons_succ, canonP, f12, f16]
    clear f12 f16
    simp only [Oper.gives]
    go_simp
    exact ⟨is_mk _ _, (Touch.refl []) _⟩
  case o18 =>
    intro vals wq hRq hpq
    simp only [factsP, List.getD_cons_zero, List.getD_cons_succ] at hpq
    have f14 := hpq.1
    replace hpq := hpq.2
    have f17 := hpq.1
    replace hpq := hpq.2
    clear hpq
    replace f17 : vals 17 = _ := f17
    simp only [List.getD_cons_zero, List.getD_cons_succ, canonP, f17]
    clear f17
    simp only [Oper.gives]
    go_simp
    exact ⟨is_mk _ _, (Touch.refl []) _⟩
  case o19 =>
    intro vals wq hRq hpq
    simp only [factsP, List.getD_cons_zero, List.getD_cons_succ] at hpq
    have f18 := hpq.1
    replace hpq := hpq.2
    clear hpq
    replace f18 : vals 18 = _ := f18
    simp only [List.getD_cons_zero, List.getD_cons_succ, canonP, f18]
    clear f18
    simp only [Oper.gives]
    go_simp
    exact ⟨is_mk _ _, (Touch.refl []) _⟩
  case o20 =>
    intro vals wq hRq hpq
    simp only [factsP, List.getD_cons_zero, List.getD_cons_succ] at hpq
    have f18 := hpq.1
    replace hpq := hpq.2
    have f19 := hpq.1
    replace hpq := hpq.2
    clear hpq
    replace f18 : vals 18 = _ := f18
    replace f19 : vals 19 = _ := f19
    simp only [List.getD_cons_zero, List.getD_cons_succ, canonP, f18, f19]
    clear f18 f19
    have hL := (HL.out.later (((Touch.drew [] W1).trans hRq (by simp)).below (Nat.le_refl _) (by simp)))
    simp only [Oper.gives]
    go_simp
    refine (hL.void).mono ?_
    rintro e w' ⟨rfl, rfl⟩
    rw [HV.out]
    exact ⟨_, rfl, is_mk _ _, Touch.refl _ _⟩
  case o21 =>
    intro vals wq hRq hpq
    simp only [factsP, List.getD_cons_zero, List.getD_cons_succ] at hpq
    have f18 := hpq.1
    replace hpq := hpq.2
    have f20 := hpq.1
    replace hpq := hpq.2
    clear hpq
    replace f18 : vals 18 = _ := f18
    replace f20 : vals 20 = _ := f20
    simp only [List.getD_cons_zero, List.getD_cons_succ, canonP, f18, f20]
    clear f18 f20
    simp only [Oper.gives]
    go_simp
    exact ⟨is_mk _ _, (Touch.refl []) _⟩
  case o22 =>
    intro vals wq hRq hpq
    simp only [factsP, List.getD_cons_zero, List.getD_cons_succ] at hpq
    have f18 := hpq.1
    replace hpq := hpq.2
    have f21 := hpq.1
    replace hpq := hpq.2
    clear hpq
    replace f18 : vals 18 = _ := f18
    replace f21 : vals 21 = _ := f21
    simp only [List.getD_cons_zero, List.getD_cons_succ, canonP, f18, f21]
    clear f18 f21
    simp only [Oper.gives]
    go_simp
    exact ⟨is_mk _ _, (Touch.refl []) _⟩
  case o23 =>
    intro vals wq hRq hpq
    simp only [factsP, List.getD_cons_zero, List.getD_cons_succ] at hpq
    have f0 := hpq.1
    replace hpq := hpq.2
    have f1 := hpq.1
    replace hpq := hpq.2
    have f2 := hpq.1
    replace hpq := hpq.2
    have f3 := hpq.1
    replace hpq := hpq.2
    have f4 := hpq.1
    replace hpq := hpq.2
    have f5 := hpq.1
    replace hpq := hpq.2
    have f6 := hpq.1
    replace hpq := hpq.2
    have f7 := hpq.1
    replace hpq := hpq.2
    have f8 := hpq.1
    replace hpq := hpq.2
    have f9 := hpq.1
    replace hpq := hpq.2
    have f10 := hpq.1
    replace hpq := hpq.2
    have f11 := hpq.1
    replace hpq := hpq.2
    have f12 := hpq.1
    replace hpq := hpq.2
    have f13 := hpq.1
    replace hpq := hpq.2
    have f14 := hpq.1
    replace hpq := hpq.2
    have f15 := hpq.1
    replace hpq := hpq.2
    have f16 := hpq.1
    replace hpq := hpq.2
    have f17 := hpq.1
    replace hpq := hpq.2
    have f18 := hpq.1
    replace hpq := hpq.2
    have f19 := hpq.1
    replace hpq := hpq.2
    have f20 := hpq.1
    replace hpq := hpq.2
    have f21 := hpq.1
    replace hpq := hpq.2
    have f22 := hpq.1
    replace hpq := hpq.2
    clear hpq
    replace f0 : vals 0 = _ := f0
    replace f1 : vals 1 = _ := f1
    replace f2 : vals 2 = _ := f2
    replace f3 : vals 3 = _ := f3
    replace f4 : vals 4 = _ := f4
    replace f5 : vals 5 = _ := f5
    replace f6 : vals 6 = _ := f6
    replace f7 : vals 7 = _ := f7
    replace f9 : vals 9 = _ := f9
    replace f10 : vals 10 = _ := f10
    replace f11 : vals 11 = _ := f11
    replace f12 : vals 12 = _ := f12
    replace f13 : vals 13 = _ := f13
    replace f15 : vals 15 = _ := f15
    replace f16 : vals 16 = _ := f16
    replace f17 : vals 17 = _ := f17
    replace f18 : vals 18 = _ := f18
    replace f19 : vals 19 = _ := f19
    replace f20 : vals 20 = _ := f20
    replace f21 : vals 21 = _ := f21
    replace f22 : vals 22 = _ := f22
    simp only [List.getD_cons_zero, List.getD_cons_succ, canonP, f0, f1, f2, f3, f4, f5, f6, f7, f9, f10, f11, f12, f13, f15, f16, f17, f18, f19, f20, f21, f22]
    clear f0 f1 f2 f3 f4 f5 f6 f7 f9 f10 f11 f12 f13 f15 f16 f17 f18 f19 f20 f21 f22
    simp only [Oper.gives]
    go_simp
    exact ⟨is_mk _ _, (Touch.refl []) _⟩
  intro vals wz hRwz hfwz
  simp only [AllFacts] at hfwz
  have g0 := hfwz.1
  replace hfwz := hfwz.2
  have g1 := hfwz.1
  replace hfwz := hfwz.2
  have g2 := hfwz.1
  replace hfwz := hfwz.2
  have g3 := hfwz.1
  replace hfwz := hfwz.2
  have g4 := hfwz.1
  replace hfwz := hfwz.2
  have g5 := hfwz.1
  replace hfwz := hfwz.2
  have g6 := hfwz.1
  replace hfwz := hfwz.2
  have g7 := hfwz.1
  replace hfwz := hfwz.2
  have g8 := hfwz.1
  replace hfwz := hfwz.2
  have g9 := hfwz.1
  replace hfwz := hfwz.2
  have g10 := hfwz.1
  replace hfwz := hfwz.2
  have g11 := hfwz.1
  replace hfwz := hfwz.2
  have g12 := hfwz.1
  replace hfwz := hfwz.2
  have g13 := hfwz.1
  replace hfwz := hfwz.2
  have g14 := hfwz.1
  replace hfwz := hfwz.2
  have g15 := hfwz.1
  replace hfwz := hfwz.2
  have g16 := hfwz.1
  replace hfwz := hfwz.2
  have g17 := hfwz.1
  replace hfwz := hfwz.2
  have g18 := hfwz.1
  replace hfwz := hfwz.2
  have g19 := hfwz.1
  replace hfwz := hfwz.2
  have g20 := hfwz.1
  replace hfwz := hfwz.2
  have g21 := hfwz.1
  replace hfwz := hfwz.2
  have g22 := hfwz.1
  replace hfwz := hfwz.2
  have g23 := hfwz.1
  replace hfwz := hfwz.2
  clear hfwz
  replace g0 : vals 0 = _ := g0
  replace g1 : vals 1 = _ := g1
  replace g2 : vals 2 = _ := g2
  replace g3 : vals 3 = _ := g3
  replace g4 : vals 4 = _ := g4
  replace g5 : vals 5 = _ := g5
  replace g6 : vals 6 = _ := g6
  replace g7 : vals 7 = _ := g7
  replace g9 : vals 9 = _ := g9
  replace g10 : vals 10 = _ := g10
  replace g11 : vals 11 = _ := g11
  replace g12 : vals 12 = _ := g12
  replace g13 : vals 13 = _ := g13
  replace g15 : vals 15 = _ := g15
  replace g16 : vals 16 = _ := g16
  replace g17 : vals 17 = _ := g17
  replace g18 : vals 18 = _ := g18
  replace g19 : vals 19 = _ := g19
  replace g20 : vals 20 = _ := g20
  replace g21 : vals 21 = _ := g21
  replace g22 : vals 22 = _ := g22
  replace g23 : vals 23 = _ := g23
  simp only [canonP, Act.put, List.setIfInBounds_toArray, List.set_cons_succ, List.set_cons_zero, g0, g1, g2, g3, g4, g5, g6, g7, g9, g10, g11, g12, g13, g15, g16, g17, g18, g19, g20, g21, g22, g23]
  clear g0 g1 g2 g3 g4 g5 g6 g7 g9 g10 g11 g12 g13 g15 g16 g17 g18 g19 g20 g21 g22 g23
  exact HK.out _ _ _ _ _ _ _ _ _ _ _ _ _ _ _ _ _ _ _ _ _ _ _ ((Touch.drew [] W1).trans hRwz (by simp))
#print axioms forgets_reg27
end Go.Proofs.Ytnogajnoghjmhaa
