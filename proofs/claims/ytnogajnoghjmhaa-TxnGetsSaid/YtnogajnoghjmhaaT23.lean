/- The law TxnLittle: the plain side; its region over letters. -/
import Derived.Test.YtnogajnoghjmhaaT22
set_option linter.unusedVariables false
set_option linter.unusedSimpArgs false
namespace Go.Proofs.Ytnogajnoghjmhaa
open Go.RowKit Go.Maps

def PS.disj (s : PS) : Prop := ∀ b, b ∈ keysA s.ch → b ∉ keysA s.fr
def TS.disj : TS → Prop
  | .c s => s.disj
  | .o s q _ _ _ => s.disj ∧ q.disj
theorem noPS_disj : noPS.disj := fun b hb => by simp [noPS, keysA] at hb
theorem disj_put {s : PS} (h : s.disj) (b : Int) (x : Blk) (od : List (Int × Unit)) (rv : List Int) : PS.disj ⟨insA s.ch b x, od, delA s.fr b, rv⟩ := fun i hi hm => by
  have h1 := mem_keysA_del.1 hm
  rcases mem_keysA_ins.1 hi with h2 | h2
  · exact h i h2 h1.1
  · exact h1.2 h2
theorem disj_forget {s : PS} (h : s.disj) (b : Int) (od : List (Int × Unit)) (rv : List Int) : PS.disj ⟨delA s.ch b, od, insA s.fr b (), rv⟩ := fun i hi hm => by
  have h1 := mem_keysA_del.1 hi
  rcases mem_keysA_ins.1 hm with h2 | h2
  · exact h i h1.1 h2
  · exact h1.2 h2
theorem doT_disj {t : TS} (h : t.disj) (x : AP) : (doT t x).2.disj := by
  unfold doT
  cases t with
  | c s =>
    simp only [beginT, endT, undoT, orderT, forgetT, putT]
    repeat' split
    all_goals first | exact h | exact ⟨h, h⟩
  | o s q cr rv did =>
    simp only [beginT, endT, undoT, orderT, forgetT, putT]
    repeat' split
    all_goals first | exact h | exact h.1 | exact h.2 | exact ⟨h.1, h.2⟩ | exact ⟨disj_put h.1 _ _ _ _, h.2⟩ | exact ⟨disj_forget h.1 _ _ _, h.2⟩
/-- within a handle -/
structure InH (s s' : PS) (cr : Int) (did : List (Int × Unit)) : Prop where
  old : ∀ b, b ∈ keysA s'.ch → b ∉ keysA did → b ∈ keysA s.ch ∧ lookA s'.ch b = lookA s.ch b
  nd : (keysA did).Nodup
  le : (did.length : Int) ≤ cr
theorem InH.start (s : PS) {cr : Int} (h : 0 ≤ cr) : InH s s cr [] := ⟨fun b hb _ => ⟨hb, rfl⟩, List.nodup_nil, by simpa using h⟩
theorem InH.same {s s' s'' : PS} {cr : Int} {did : List (Int × Unit)} (h : InH s s' cr did) (he : s''.ch = s'.ch) : InH s s'' cr did := ⟨fun b hb => by rw [he] at hb ⊢; exact h.old b hb, h.nd, h.le⟩
theorem InH.forget {s s' : PS} {cr : Int} {did : List (Int × Unit)} (h : InH s s' cr did) (b : Int) (od fr : List (Int × Unit)) (rv : List Int) : InH s ⟨delA s'.ch b, od, fr, rv⟩ cr did :=
  ⟨fun i hi hn => by
    have h1 := mem_keysA_del.1 hi
    have h2 := h.old i h1.1 hn
    exact ⟨h2.1, by show lookA (delA s'.ch b) i = _; rw [lookA_del]; unfold delG; rw [if_neg h1.2]; exact h2.2⟩, h.nd, h.le⟩
theorem InH.put {s s' : PS} {cr : Int} {did : List (Int × Unit)} (h : InH s s' cr did) (b : Int) (x : Blk) (od fr : List (Int × Unit)) (rv : List Int) (hc : ¬ (b ∉ keysA did ∧ cr ≤ (did.length : Int))) : InH s ⟨insA s'.ch b x, od, fr, rv⟩ cr (insA did b ()) where
  old := fun i hi hn => by
    have hn2 : i ∉ keysA did ∧ i ≠ b := ⟨fun c => hn (mem_keysA_ins.2 (.inl c)), fun c => hn (mem_keysA_ins.2 (.inr c))⟩
    rcases mem_keysA_ins.1 hi with h1 | h1
    · have h2 := h.old i h1 hn2.1
      exact ⟨h2.1, by show lookA (insA s'.ch b x) i = _; rw [lookA_ins]; unfold putG; rw [if_neg hn2.2]; exact h2.2⟩
    · exact absurd h1 hn2.2
  nd := insA_nodup h.nd b ()
  le := by
    have h1 := delA_length h.nd b
    have h2 := h.le
    unfold insA
    rw [List.length_append]
    simp only [List.length_cons, List.length_nil]
    by_cases hm : b ∈ keysA did
    · rw [if_pos hm] at h1; omega
    · have : ¬ cr ≤ (did.length : Int) := fun c => hc ⟨hm, c⟩
      rw [if_neg hm] at h1; omega
theorem InH.act {s s' q : PS} {cr rv : Int} {did : List (Int × Unit)} (h : InH s s' cr did) {x : AP} (hk : 2 < x.k % 10) : ∃ z s2 rv2 did2, doT (.o s' q cr rv did) x = (z, .o s2 q cr rv2 did2) ∧ InH s s2 cr did2 := by
  unfold doT
  rw [if_neg (by omega), if_neg (by omega), if_neg (by omega)]
  split
  · unfold orderT; dsimp only; split
    · exact ⟨_, _, _, _, rfl, h⟩
    · exact ⟨_, _, _, _, rfl, h.same rfl⟩
  split
  · unfold forgetT; dsimp only; split
    · exact ⟨_, _, _, _, rfl, h⟩
    split
    · exact ⟨_, _, _, _, rfl, h⟩
    · exact ⟨_, _, _, _, rfl, h.forget _ _ _ _⟩
  split
  · unfold forgetT; dsimp only; split
    · exact ⟨_, _, _, _, rfl, h⟩
    split
    · exact ⟨_, _, _, _, rfl, h⟩
    · exact ⟨_, _, _, _, rfl, h.forget _ _ _ _⟩
  · unfold putT; dsimp only; split
    · exact ⟨_, _, _, _, rfl, h⟩
    split
    · exact ⟨_, _, _, _, rfl, h⟩
    · rename_i hc
      exact ⟨_, _, _, _, rfl, h.put _ _ _ _ _ hc⟩
def newer (was now : List Cp) : List Cp := now.filter fun c => decide (c ∉ was)
theorem InH.count {s s' : PS} {cr : Int} {did : List (Int × Unit)} (h : InH s s' cr did) (hn : (keysA s'.ch).Nodup) : ((newer s.copies s'.copies).length : Int) ≤ cr := by
  have h1 : ((newer s.copies s'.copies).map (·.1)).Nodup := by
    unfold newer PS.copies
    rw [List.Nodup, List.pairwise_map]
    refine List.Pairwise.filter _ ?_
    rw [List.pairwise_map]
    exact (sortI_perm _).nodup_iff.2 hn
  have h2 := nodup_sub _ (keysA did) h1 (fun b hb => by
    obtain ⟨c, hc, rfl⟩ := List.mem_map.1 hb
    obtain ⟨hc1, hc2⟩ := List.mem_filter.1 hc
    unfold PS.copies at hc1
    obtain ⟨i, hi, rfl⟩ := List.mem_map.1 hc1
    have hi' := (sortI_perm _).mem_iff.1 hi
    refine Classical.byContradiction fun hd => ?_
    obtain ⟨h3, h4⟩ := h.old i hi' hd
    refine of_decide_eq_true hc2 ?_
    unfold PS.copies PS.copy
    rw [h4]
    exact List.mem_map.2 ⟨i, (sortI_perm _).mem_iff.2 h3, rfl⟩)
  rw [List.length_map, keysA_length] at h2
  have := h.le
  omega
theorem newer_take {was now : List Cp} {i : Nat} {c : Cp} (h : now[i]? = some c) : newer was (now.take (i + 1)) = newer was (now.take i) ++ (if c ∈ was then [] else [c]) := by
  unfold newer
  rw [List.take_add_one, h, List.filter_append]
  congr 1
  by_cases hm : c ∈ was <;> simp [hm]
theorem disj_copy {s : PS} (h : s.disj) {c : Cp} (hc : c ∈ s.copies) : decide (c.1 ∈ sortI (keysA s.fr)) = false := by
  unfold PS.copies at hc
  obtain ⟨i, hi, rfl⟩ := List.mem_map.1 hc
  refine decide_eq_false fun hm => ?_
  exact h i ((sortI_perm _).mem_iff.1 hi) ((sortI_perm _).mem_iff.1 hm)
theorem Row.own_lt {w : World} {e sz : Nat} {v : Value} {l : List (List Value)} (h : Row w e sz v l) {g : Nat} (hg : v.ownBlock = some g) : g < w.heap.size := by
  rcases h.2.2 with ⟨hv, _⟩ | ⟨g', cap, cur, hv, _, hh, _⟩
  · subst hv; cases hg
  · subst hv; cases hg; exact (Array.getElem?_eq_some_iff.1 hh).1
noncomputable def little_reg29fCode : Code := regById 29 (codesOf (Try.f5.body.getD .skip))
set_option maxRecDepth 100000 in
set_option maxHeartbeats 4000000 in
theorem little_reg29f (TW TN ga gb i j na nb ca cb : Nat) (x y : Cp) (e : Bool) (la lb : List Cp) (W1 : World) (HA0 : Hid ((0 : Int) ≤ (j : Int))) (HA1 : Hid ((j : Int) < (na : Int))) (HB0 : Hid ((0 : Int) ≤ (i : Int))) (HB1 : Hid ((i : Int) < (nb : Int))) (HCa : Hid (TW < W1.heap.size ∧ W1.cell? ⟨TW, 1, none⟩ = some (.slice (some ⟨ga, 0, none⟩) na ca))) (HCb : Hid (TN < W1.heap.size ∧ W1.cell? ⟨TN, 1, none⟩ = some (.slice (some ⟨gb, 0, none⟩) nb cb))) (HRa : Hid (CRow W1 (.slice (some ⟨ga, 0, none⟩) na ca) la)) (HRb : Hid (CRow W1 (.slice (some ⟨gb, 0, none⟩) nb cb) lb)) (HGx : Hid ((la.map ccell)[j]? = some (ccell x))) (HGy : Hid ((lb.map ccell)[i]? = some (ccell y))) (HSzx : Hid ((Try.prog.info? 46).map (·.size) = some (ccell x).length)) (HSzy : Hid ((Try.prog.info? 46).map (·.size) = some (ccell y).length)) (HNE : Hid (∀ w, (binOp .eql 46 (.agg (ccell x).toArray) (.agg (ccell y).toArray)).run Try.prog w = .ok (.bool e) w))
    (s0 s1 s2 s3 s4 s5 s6 s7 s8 s9 s10 s11 s12 s14 s15 s17 s18 s22 s23 s24 s25 s26 s27 s28 s29 s30 s31 s32 s33 s34 s35 s36 s37 s38 s39 s40 s41 s42 s43 s44 s45 s46 s47 s48 s49 s50 s51 s52 s53 s54 s55 s56 s57 s58 s59 s60 s61 s62 s63 s64 s65 s66 s67 s68 s69 s70 s71 s72 s73 s74 s75 s76 s77 s78 s79 s80 s81 s82 s83 s84 s85 s86 s87 s88 s89 s90 s91 s92 s93 s94 s95 s96 s97 s98 s99 s100 s101 s102 s103 s104 s105 s106 s107 s108 s109 s110 s111 s112 s113 s114 s115 s116 s117 s118 s119 s120 s121 s122 s123 s124 s125 s126 s127 s128 s129 s130 s131 s132 s133 s134 : Value) (Q : Exit → Act → World → Prop) (HK : Hid (∀ u103 u104 u105 u106 u107 u108 u109 u110 u111 u112 u113 u114 u115 wz, Touch [] W1 wz → Q .normal ⟨(s0 :: s1 :: s2 :: s3 :: s4 :: s5 :: s6 :: s7 :: s8 :: s9 :: s10 :: s11 :: s12 :: .pointer (some ⟨TW, 0, none⟩) :: s14 :: s15 :: .pointer (some ⟨TN, 0, none⟩) :: s17 :: s18 :: .int .i64 (i : Int) :: .bool e :: .int .i64 (j : Int) :: s22 :: s23 :: s24 :: s25 :: s26 :: s27 :: s28 :: s29 :: s30 :: s31 :: s32 :: s33 :: s34 :: s35 :: s36 :: s37 :: s38 :: s39 :: s40 :: s41 :: s42 :: s43 :: s44 :: s45 :: s46 :: s47 :: s48 :: s49 :: s50 :: s51 :: s52 :: s53 :: s54 :: s55 :: s56 :: s57 :: s58 :: s59 :: s60 :: s61 :: s62 :: s63 :: s64 :: s65 :: s66 :: s67 :: s68 :: s69 :: s70 :: s71 :: s72 :: s73 :: s74 :: s75 :: s76 :: s77 :: s78 :: s79 :: s80 :: s81 :: s82 :: s83 :: s84 :: s85 :: s86 :: s87 :: s88 :: s89 :: s90 :: s91 :: s92 :: s93 :: s94 :: s95 :: s96 :: s97 :: s98 :: s99 :: s100 :: s101 :: s102 :: u103 :: u104 :: u105 :: u106 :: u107 :: u108 :: u109 :: u110 :: u111 :: u112 :: u113 :: u114 :: u115 :: .bool e :: s117 :: s118 :: s119 :: s120 :: s121 :: s122 :: s123 :: s124 :: s125 :: s126 :: s127 :: s128 :: s129 :: s130 :: s131 :: s132 :: s133 :: s134 :: []).toArray, []⟩ (wz))) : little_reg29fCode.wp Try.prog Q ⟨(s0 :: s1 :: s2 :: s3 :: s4 :: s5 :: s6 :: s7 :: s8 :: s9 :: s10 :: s11 :: s12 :: .pointer (some ⟨TW, 0, none⟩) :: s14 :: s15 :: .pointer (some ⟨TN, 0, none⟩) :: s17 :: s18 :: .int .i64 (i : Int) :: .bool false :: .int .i64 (j : Int) :: s22 :: s23 :: s24 :: s25 :: s26 :: s27 :: s28 :: s29 :: s30 :: s31 :: s32 :: s33 :: s34 :: s35 :: s36 :: s37 :: s38 :: s39 :: s40 :: s41 :: s42 :: s43 :: s44 :: s45 :: s46 :: s47 :: s48 :: s49 :: s50 :: s51 :: s52 :: s53 :: s54 :: s55 :: s56 :: s57 :: s58 :: s59 :: s60 :: s61 :: s62 :: s63 :: s64 :: s65 :: s66 :: s67 :: s68 :: s69 :: s70 :: s71 :: s72 :: s73 :: s74 :: s75 :: s76 :: s77 :: s78 :: s79 :: s80 :: s81 :: s82 :: s83 :: s84 :: s85 :: s86 :: s87 :: s88 :: s89 :: s90 :: s91 :: s92 :: s93 :: s94 :: s95 :: s96 :: s97 :: s98 :: s99 :: s100 :: s101 :: s102 :: s103 :: s104 :: s105 :: s106 :: s107 :: s108 :: s109 :: s110 :: s111 :: s112 :: s113 :: s114 :: s115 :: s116 :: s117 :: s118 :: s119 :: s120 :: s121 :: s122 :: s123 :: s124 :: s125 :: s126 :: s127 :: s128 :: s129 :: s130 :: s131 :: s132 :: s133 :: s134 :: []).toArray, []⟩ W1 := by
  conv => arg 2; whnf
  refine wp_region_facts (by kernel_rfl) [[], [(0, some 103)], [(1, some 104)], [(1, some 104), (2, some 105)], [(1, some 104)], [(1, some 104), (3, some 106), (4, some 107)], [(1, some 104), (5, some 108)], [(1, some 104)], [(1, some 104), (7, some 110)], [(1, some 104)], [(1, some 104), (8, some 111), (9, some 112)], [(1, some 104), (10, some 113)], [(1, some 104), (6, some 109), (11, some 114)], [(1, some 104), (12, some 115)], [(0, some 103), (1, some 104), (2, some 105), (3, some 106), (4, some 107), (5, some 108), (6, some 109), (7, some 110), (8, some 111), (9, some 112), (10, some 113), (11, some 114), (12, some 115), (13, some 116)]] [(0, some 103), (1, some 104), (2, some 105), (3, some 106), (4, some 107), (5, some 108), (6, some 109), (7, some 110), (8, some 111), (9, some 112), (10, some 113), (11, some 114), (12, some 115), (13, some 116), (14, some 20)] (by kernel_rfl) (by kernel_rfl) (by kernel_rfl) (Touch []) (Touch.refl []) (fun _ _ _ h h' => h.trans h' (fun i hi => .inl hi)) [Is (Value.bool false), Is (Value.bool false), Is (Value.pointer (some ⟨TW, 1, none⟩)), Is (Value.slice (some ⟨ga, 0, none⟩) na ca), Is (Value.int .i64 (j : Int)), Is (Value.pointer (some ⟨ga, j * 257, none⟩)), Is (Value.agg (ccell x).toArray), Is (Value.pointer (some ⟨TN, 1, none⟩)), Is (Value.slice (some ⟨gb, 0, none⟩) nb cb), Is (Value.int .i64 (i : Int)), Is (Value.pointer (some ⟨gb, i * 257, none⟩)), Is (Value.agg (ccell y).toArray), Is (Value.bool e), Is (Value.bool e), Is (Value.bool e)] rfl ⟨is_stab _ _, is_stab _ _, is_stab _ _, is_stab _ _, is_stab _ _, is_stab _ _, is_stab _ _, is_stab _ _, is_stab _ _, is_stab _ _, is_stab _ _, is_stab _ _, is_stab _ _, is_stab _ _, is_stab _ _, trivial⟩ ⟨?o0, ?o1, ?o2, ?o3, ?o4, ?o5, ?o6, ?o7, ?o8, ?o9, ?o10, ?o11, ?o12, ?o13, ?o14, trivial⟩ ?_
  case o0 =>
    intro vals wq hRq hpq
    simp only [List.getD_cons_zero, List.getD_cons_succ, canonP]
    simp only [Oper.gives]
    go_simp
    exact ⟨is_mk _ _, (Touch.refl []) _⟩
  case o1 =>
    intro vals wq hRq hpq
    simp only [factsP, List.getD_cons_zero, List.getD_cons_succ] at hpq
    have f0 := hpq.1
    replace hpq := hpq.2
    clear hpq
    replace f0 : vals 0 = _ := f0
    simp only [List.getD_cons_zero, List.getD_cons_succ, canonP, f0]
    clear f0
    simp only [Oper.gives]
    go_simp
    exact ⟨is_mk _ _, (Touch.refl []) _⟩
  case o2 =>
    intro vals wq hRq hpq
    simp only [factsP, List.getD_cons_zero, List.getD_cons_succ] at hpq
    have f1 := hpq.1
    replace hpq := hpq.2
    clear hpq
    replace f1 : vals 1 = _ := f1
    simp only [List.getD_cons_zero, List.getD_cons_succ, canonP, f1]
    clear f1
    simp only [Oper.gives]
    go_simp
    exact ⟨is_mk _ _, (Touch.refl []) _⟩
  case o3 =>
    intro vals wq hRq hpq
    simp only [factsP, List.getD_cons_zero, List.getD_cons_succ] at hpq
    have f1 := hpq.1
    replace hpq := hpq.2
    have f2 := hpq.1
    replace hpq := hpq.2
    clear hpq
    replace f1 : vals 1 = _ := f1
    replace f2 : vals 2 = _ := f2
    simp only [List.getD_cons_zero, List.getD_cons_succ, canonP, f1, f2]
    clear f1 f2
    have hcc : wq.cell? ⟨TW, 1, none⟩ = some (.slice (some ⟨ga, 0, none⟩) na ca) := (Touch.cell ((Touch.drew [] W1).trans hRq (by simp)) (a := ⟨TW, 1, none⟩) HCa.out.1 (by simp)).trans HCa.out.2
    simp only [Oper.gives]
    go_simp
    exact ⟨is_mk _ _, Touch.refl _ _⟩
  case o4 =>
    intro vals wq hRq hpq
    simp only [factsP, List.getD_cons_zero, List.getD_cons_succ] at hpq
    have f1 := hpq.1
    replace hpq := hpq.2
    clear hpq
    replace f1 : vals 1 = _ := f1
    simp only [List.getD_cons_zero, List.getD_cons_succ, canonP, f1]
    clear f1
    simp only [Oper.gives]
    go_simp
    exact ⟨is_mk _ _, (Touch.refl []) _⟩
  case o5 =>
    intro vals wq hRq hpq
    simp only [factsP, List.getD_cons_zero, List.getD_cons_succ] at hpq
    have f1 := hpq.1
    replace hpq := hpq.2
    have f3 := hpq.1
    replace hpq := hpq.2
    have f4 := hpq.1
    replace hpq := hpq.2
    clear hpq
    replace f1 : vals 1 = _ := f1
    replace f3 : vals 3 = _ := f3
    replace f4 : vals 4 = _ := f4
    simp only [List.getD_cons_zero, List.getD_cons_succ, canonP, f1, f3, f4]
    clear f1 f3 f4
    have b0 := HA0.out
    have b1 := HA1.out
    simp only [Oper.gives]
    go_simp
    exact ⟨is_mk _ _, Touch.refl _ _⟩
  case o6 =>
    intro vals wq hRq hpq
    simp only [factsP, List.getD_cons_zero, List.getD_cons_succ] at hpq
    have f1 := hpq.1
    replace hpq := hpq.2
    have f5 := hpq.1
    replace hpq := hpq.2
    clear hpq
    replace f1 : vals 1 = _ := f1
    replace f5 : vals 5 = _ := f5
    simp only [List.getD_cons_zero, List.getD_cons_succ, canonP, f1, f5]
    clear f1 f5
    have hr := Row.kept HRa.out ((Touch.drew [] W1).trans hRq (by simp)) (by simp)
    rw [if_pos (by rfl)]
    exact gives_load_mid 46 _ rfl ga (j * 257) rfl (ccell x) _ (Row.range hr HGx.out) Try.underlying46 rfl HSzx.out ⟨is_mk _ _, Touch.refl _ _⟩
  case o7 =>
    intro vals wq hRq hpq
    simp only [factsP, List.getD_cons_zero, List.getD_cons_succ] at hpq
    have f1 := hpq.1
    replace hpq := hpq.2
    clear hpq
    replace f1 : vals 1 = _ := f1
    simp only [List.getD_cons_zero, List.getD_cons_succ, canonP, f1]
    clear f1
    simp only [Oper.gives]
    go_simp
    exact ⟨is_mk _ _, (Touch.refl []) _⟩
  case o8 =>
    intro vals wq hRq hpq
    simp only [factsP, List.getD_cons_zero, List.getD_cons_succ] at hpq
    have f1 := hpq.1
    replace hpq := hpq.2
    have f7 := hpq.1
    replace hpq := hpq.2
    clear hpq
    replace f1 : vals 1 = _ := f1
    replace f7 : vals 7 = _ := f7
    simp only [List.getD_cons_zero, List.getD_cons_succ, canonP, f1, f7]
    clear f1 f7
    have hcc : wq.cell? ⟨TN, 1, none⟩ = some (.slice (some ⟨gb, 0, none⟩) nb cb) := (Touch.cell ((Touch.drew [] W1).trans hRq (by simp)) (a := ⟨TN, 1, none⟩) HCb.out.1 (by simp)).trans HCb.out.2
    simp only [Oper.gives]
    go_simp
    exact ⟨is_mk _ _, Touch.refl _ _⟩
  case o9 =>
    intro vals wq hRq hpq
    simp only [factsP, List.getD_cons_zero, List.getD_cons_succ] at hpq
    have f1 := hpq.1
    replace hpq := hpq.2
    clear hpq
    replace f1 : vals 1 = _ := f1
    simp only [List.getD_cons_zero, List.getD_cons_succ, canonP, f1]
    clear f1
    simp only [Oper.gives]
    go_simp
    exact ⟨is_mk _ _, (Touch.refl []) _⟩
  case o10 =>
    intro vals wq hRq hpq
    simp only [factsP, List.getD_cons_zero, List.getD_cons_succ] at hpq
    have f1 := hpq.1
    replace hpq := hpq.2
    have f8 := hpq.1
    replace hpq := hpq.2
    have f9 := hpq.1
    replace hpq := hpq.2
    clear hpq
    replace f1 : vals 1 = _ := f1
    replace f8 : vals 8 = _ := f8
    replace f9 : vals 9 = _ := f9
    simp only [List.getD_cons_zero, List.getD_cons_succ, canonP, f1, f8, f9]
    clear f1 f8 f9
    have b0 := HB0.out
    have b1 := HB1.out
    simp only [Oper.gives]
    go_simp
    exact ⟨is_mk _ _, Touch.refl _ _⟩
  case o11 =>
    intro vals wq hRq hpq
    simp only [factsP, List.getD_cons_zero, List.getD_cons_succ] at hpq
    have f1 := hpq.1
    replace hpq := hpq.2
    have f10 := hpq.1
    replace hpq := hpq.2
    clear hpq
    replace f1 : vals 1 = _ := f1
    replace f10 : vals 10 = _ := f10
    simp only [List.getD_cons_zero, List.getD_cons_succ, canonP, f1, f10]
    clear f1 f10
    have hr := Row.kept HRb.out ((Touch.drew [] W1).trans hRq (by simp)) (by simp)
    rw [if_pos (by rfl)]
    exact gives_load_mid 46 _ rfl gb (i * 257) rfl (ccell y) _ (Row.range hr HGy.out) Try.underlying46 rfl HSzy.out ⟨is_mk _ _, Touch.refl _ _⟩
  case o12 =>
    intro vals wq hRq hpq
    simp only [factsP, List.getD_cons_zero, List.getD_cons_succ] at hpq
    have f1 := hpq.1
    replace hpq := hpq.2
    have f6 := hpq.1
    replace hpq := hpq.2
    have f11 := hpq.1
    replace hpq := hpq.2
    clear hpq
    replace f1 : vals 1 = _ := f1
    replace f6 : vals 6 = _ := f6
    replace f11 : vals 11 = _ := f11
    simp only [List.getD_cons_zero, List.getD_cons_succ, canonP, f1, f6, f11]
    clear f1 f6 f11
    rw [if_pos (by rfl)]
    exact gives_binOp .eql 46 _ _ _ rfl _ _ rfl rfl (gC _ _ _ _ _ wq) (HNE.out wq) ⟨is_mk _ _, Touch.refl _ _⟩
  case o13 =>
    intro vals wq hRq hpq
    simp only [factsP, List.getD_cons_zero, List.getD_cons_succ] at hpq
    have f1 := hpq.1
    replace hpq := hpq.2
    have f12 := hpq.1
    replace hpq := hpq.2
    clear hpq
    replace f1 : vals 1 = _ := f1
    replace f12 : vals 12 = _ := f12
    simp only [List.getD_cons_zero, List.getD_cons_succ, canonP, f1, f12]
    clear f1 f12
    simp only [Oper.gives]
    go_simp
    exact ⟨is_mk _ _, Touch.refl _ _⟩
  case o14 =>
    intro vals wq hRq hpq
    simp only [factsP, List.getD_cons_zero, List.getD_cons_succ] at hpq
    have f0 := hpq.1
    replace hpq := hpq.2
    have f1 := hpq.1
    replace hpq := hpq.2
    have f2 := hpq.1
    replace hpq := hpq.2
    have f3 := hpq.1
    replace hpq := hpq.2
    have f4 := hpq.1
    replace hpq := hpq.2
    have f5 := hpq.1
    replace hpq := hpq.2
    have f6 := hpq.1
    replace hpq := hpq.2
    have f7 := hpq.1
    replace hpq := hpq.2
    have f8 := hpq.1
    replace hpq := hpq.2
    have f9 := hpq.1
    replace hpq := hpq.2
    have f10 := hpq.1
    replace hpq := hpq.2
    have f11 := hpq.1
    replace hpq := hpq.2
    have f12 := hpq.1
    replace hpq := hpq.2
    have f13 := hpq.1
    replace hpq := hpq.2
    clear hpq
    replace f0 : vals 0 = _ := f0
    replace f1 : vals 1 = _ := f1
    replace f2 : vals 2 = _ := f2
    replace f3 : vals 3 = _ := f3
    replace f4 : vals 4 = _ := f4
    replace f5 : vals 5 = _ := f5
    replace f6 : vals 6 = _ := f6
    replace f7 : vals 7 = _ := f7
    replace f8 : vals 8 = _ := f8
    replace f9 : vals 9 = _ := f9
    replace f10 : vals 10 = _ := f10
    replace f11 : vals 11 = _ := f11
    replace f12 : vals 12 = _ := f12
    replace f13 : vals 13 = _ := f13
    simp only [List.getD_cons_zero, List.getD_cons_succ, canonP, f0, f1, f2, f3, f4, f5, f6, f7, f8, f9, f10, f11, f12, f13]
    clear f0 f1 f2 f3 f4 f5 f6 f7 f8 f9 f10 f11 f12 f13
    simp only [Oper.gives]
    go_simp
    exact ⟨is_mk _ _, (Touch.refl []) _⟩
  intro vals wz hRwz hfwz
  simp only [AllFacts] at hfwz
  have g0 := hfwz.1
  replace hfwz := hfwz.2
  have g1 := hfwz.1
  replace hfwz := hfwz.2
  have g2 := hfwz.1
  replace hfwz := hfwz.2
  have g3 := hfwz.1
  replace hfwz := hfwz.2
  have g4 := hfwz.1
  replace hfwz := hfwz.2
  have g5 := hfwz.1
  replace hfwz := hfwz.2
  have g6 := hfwz.1
  replace hfwz := hfwz.2
  have g7 := hfwz.1
  replace hfwz := hfwz.2
  have g8 := hfwz.1
  replace hfwz := hfwz.2
  have g9 := hfwz.1
  replace hfwz := hfwz.2
  have g10 := hfwz.1
  replace hfwz := hfwz.2
  have g11 := hfwz.1
  replace hfwz := hfwz.2
  have g12 := hfwz.1
  replace hfwz := hfwz.2
  have g13 := hfwz.1
  replace hfwz := hfwz.2
  have g14 := hfwz.1
  replace hfwz := hfwz.2
  clear hfwz
  replace g0 : vals 0 = _ := g0
  replace g1 : vals 1 = _ := g1
  replace g2 : vals 2 = _ := g2
  replace g3 : vals 3 = _ := g3
  replace g4 : vals 4 = _ := g4
  replace g5 : vals 5 = _ := g5
  replace g6 : vals 6 = _ := g6
  replace g7 : vals 7 = _ := g7
  replace g8 : vals 8 = _ := g8
  replace g9 : vals 9 = _ := g9
  replace g10 : vals 10 = _ := g10
  replace g11 : vals 11 = _ := g11
  replace g12 : vals 12 = _ := g12
  replace g13 : vals 13 = _ := g13
  replace g14 : vals 14 = _ := g14
  simp only [canonP, Act.put, List.setIfInBounds_toArray, List.set_cons_succ, List.set_cons_zero, g0, g1, g2, g3, g4, g5, g6, g7, g8, g9, g10, g11, g12, g13, g14]
  clear g0 g1 g2 g3 g4 g5 g6 g7 g8 g9 g10 g11 g12 g13 g14
  exact HK.out _ _ _ _ _ _ _ _ _ _ _ _ _ _ ((Touch.drew [] W1).trans hRwz (by simp))
#print axioms little_reg29f
noncomputable def little_reg29tCode : Code := regById 29 (codesOf (Try.f5.body.getD .skip))
set_option maxRecDepth 100000 in
set_option maxHeartbeats 4000000 in
theorem little_reg29t (TW TN i j : Nat) (W1 : World) 
    (s0 s1 s2 s3 s4 s5 s6 s7 s8 s9 s10 s11 s12 s14 s15 s17 s18 s22 s23 s24 s25 s26 s27 s28 s29 s30 s31 s32 s33 s34 s35 s36 s37 s38 s39 s40 s41 s42 s43 s44 s45 s46 s47 s48 s49 s50 s51 s52 s53 s54 s55 s56 s57 s58 s59 s60 s61 s62 s63 s64 s65 s66 s67 s68 s69 s70 s71 s72 s73 s74 s75 s76 s77 s78 s79 s80 s81 s82 s83 s84 s85 s86 s87 s88 s89 s90 s91 s92 s93 s94 s95 s96 s97 s98 s99 s100 s101 s102 s103 s104 s105 s106 s107 s108 s109 s110 s111 s112 s113 s114 s115 s116 s117 s118 s119 s120 s121 s122 s123 s124 s125 s126 s127 s128 s129 s130 s131 s132 s133 s134 : Value) (Q : Exit → Act → World → Prop) (HK : Hid (∀ u103 u104 u105 u106 u107 u108 u109 u110 u111 u112 u113 u114 u115 wz, Touch [] W1 wz → Q .normal ⟨(s0 :: s1 :: s2 :: s3 :: s4 :: s5 :: s6 :: s7 :: s8 :: s9 :: s10 :: s11 :: s12 :: .pointer (some ⟨TW, 0, none⟩) :: s14 :: s15 :: .pointer (some ⟨TN, 0, none⟩) :: s17 :: s18 :: .int .i64 (i : Int) :: .bool true :: .int .i64 (j : Int) :: s22 :: s23 :: s24 :: s25 :: s26 :: s27 :: s28 :: s29 :: s30 :: s31 :: s32 :: s33 :: s34 :: s35 :: s36 :: s37 :: s38 :: s39 :: s40 :: s41 :: s42 :: s43 :: s44 :: s45 :: s46 :: s47 :: s48 :: s49 :: s50 :: s51 :: s52 :: s53 :: s54 :: s55 :: s56 :: s57 :: s58 :: s59 :: s60 :: s61 :: s62 :: s63 :: s64 :: s65 :: s66 :: s67 :: s68 :: s69 :: s70 :: s71 :: s72 :: s73 :: s74 :: s75 :: s76 :: s77 :: s78 :: s79 :: s80 :: s81 :: s82 :: s83 :: s84 :: s85 :: s86 :: s87 :: s88 :: s89 :: s90 :: s91 :: s92 :: s93 :: s94 :: s95 :: s96 :: s97 :: s98 :: s99 :: s100 :: s101 :: s102 :: u103 :: u104 :: u105 :: u106 :: u107 :: u108 :: u109 :: u110 :: u111 :: u112 :: u113 :: u114 :: u115 :: .bool true :: s117 :: s118 :: s119 :: s120 :: s121 :: s122 :: s123 :: s124 :: s125 :: s126 :: s127 :: s128 :: s129 :: s130 :: s131 :: s132 :: s133 :: s134 :: []).toArray, []⟩ (wz))) : little_reg29tCode.wp Try.prog Q ⟨(s0 :: s1 :: s2 :: s3 :: s4 :: s5 :: s6 :: s7 :: s8 :: s9 :: s10 :: s11 :: s12 :: .pointer (some ⟨TW, 0, none⟩) :: s14 :: s15 :: .pointer (some ⟨TN, 0, none⟩) :: s17 :: s18 :: .int .i64 (i : Int) :: .bool true :: .int .i64 (j : Int) :: s22 :: s23 :: s24 :: s25 :: s26 :: s27 :: s28 :: s29 :: s30 :: s31 :: s32 :: s33 :: s34 :: s35 :: s36 :: s37 :: s38 :: s39 :: s40 :: s41 :: s42 :: s43 :: s44 :: s45 :: s46 :: s47 :: s48 :: s49 :: s50 :: s51 :: s52 :: s53 :: s54 :: s55 :: s56 :: s57 :: s58 :: s59 :: s60 :: s61 :: s62 :: s63 :: s64 :: s65 :: s66 :: s67 :: s68 :: s69 :: s70 :: s71 :: s72 :: s73 :: s74 :: s75 :: s76 :: s77 :: s78 :: s79 :: s80 :: s81 :: s82 :: s83 :: s84 :: s85 :: s86 :: s87 :: s88 :: s89 :: s90 :: s91 :: s92 :: s93 :: s94 :: s95 :: s96 :: s97 :: s98 :: s99 :: s100 :: s101 :: s102 :: s103 :: s104 :: s105 :: s106 :: s107 :: s108 :: s109 :: s110 :: s111 :: s112 :: s113 :: s114 :: s115 :: s116 :: s117 :: s118 :: s119 :: s120 :: s121 :: s122 :: s123 :: s124 :: s125 :: s126 :: s127 :: s128 :: s129 :: s130 :: s131 :: s132 :: s133 :: s134 :: []).toArray, []⟩ W1 := by
  conv => arg 2; whnf
  refine wp_region_facts (by kernel_rfl) [[], [(0, some 103)], [(1, some 104)], [(1, some 104), (2, some 105)], [(1, some 104)], [(1, some 104), (3, some 106), (4, some 107)], [(1, some 104), (5, some 108)], [(1, some 104)], [(1, some 104), (7, some 110)], [(1, some 104)], [(1, some 104), (8, some 111), (9, some 112)], [(1, some 104), (10, some 113)], [(1, some 104), (6, some 109), (11, some 114)], [(1, some 104), (12, some 115)], [(0, some 103), (1, some 104), (2, some 105), (3, some 106), (4, some 107), (5, some 108), (6, some 109), (7, some 110), (8, some 111), (9, some 112), (10, some 113), (11, some 114), (12, some 115), (13, some 116)]] [(0, some 103), (1, some 104), (2, some 105), (3, some 106), (4, some 107), (5, some 108), (6, some 109), (7, some 110), (8, some 111), (9, some 112), (10, some 113), (11, some 114), (12, some 115), (13, some 116), (14, some 20)] (by kernel_rfl) (by kernel_rfl) (by kernel_rfl) (Touch []) (Touch.refl []) (fun _ _ _ h h' => h.trans h' (fun i hi => .inl hi)) [Is (Value.bool true), Is (Value.bool true), Is (undef), Is (undef), Is (undef), Is (undef), Is (undef), Is (undef), Is (undef), Is (undef), Is (undef), Is (undef), Is (undef), Is (Value.bool true), Is (Value.bool true)] rfl ⟨is_stab _ _, is_stab _ _, is_stab _ _, is_stab _ _, is_stab _ _, is_stab _ _, is_stab _ _, is_stab _ _, is_stab _ _, is_stab _ _, is_stab _ _, is_stab _ _, is_stab _ _, is_stab _ _, is_stab _ _, trivial⟩ ⟨?o0, ?o1, ?o2, ?o3, ?o4, ?o5, ?o6, ?o7, ?o8, ?o9, ?o10, ?o11, ?o12, ?o13, ?o14, trivial⟩ ?_
  case o0 =>
    intro vals wq hRq hpq
    simp only [List.getD_cons_zero, List.getD_cons_succ, canonP]
    simp only [Oper.gives]
    go_simp
    exact ⟨is_mk _ _, (Touch.refl []) _⟩
  case o1 =>
    intro vals wq hRq hpq
    simp only [factsP, List.getD_cons_zero, List.getD_cons_succ] at hpq
    have f0 := hpq.1
    replace hpq := hpq.2
    clear hpq
    replace f0 : vals 0 = _ := f0
    simp only [List.getD_cons_zero, List.getD_cons_succ, canonP, f0]
    clear f0
    simp only [Oper.gives]
    go_simp
    exact ⟨is_mk _ _, (Touch.refl []) _⟩
  case o2 =>
    intro vals wq hRq hpq
    simp only [factsP, List.getD_cons_zero, List.getD_cons_succ] at hpq
    have f1 := hpq.1
    replace hpq := hpq.2
    clear hpq
    replace f1 : vals 1 = _ := f1
    simp only [List.getD_cons_zero, List.getD_cons_succ, canonP, f1]
    clear f1
    simp only [Oper.gives]
    go_simp
    exact is_mk _ _
  case o3 =>
    intro vals wq hRq hpq
    simp only [factsP, List.getD_cons_zero, List.getD_cons_succ] at hpq
    have f1 := hpq.1
    replace hpq := hpq.2
    have f2 := hpq.1
    replace hpq := hpq.2
    clear hpq
    replace f1 : vals 1 = _ := f1
    replace f2 : vals 2 = _ := f2
    simp only [List.getD_cons_zero, List.getD_cons_succ, canonP, f1, f2]
    clear f1 f2
    simp only [Oper.gives]
    go_simp
    exact is_mk _ _
  case o4 =>
    intro vals wq hRq hpq
    simp only [factsP, List.getD_cons_zero, List.getD_cons_succ] at hpq
    have f1 := hpq.1
    replace hpq := hpq.2
    clear hpq
    replace f1 : vals 1 = _ := f1
    simp only [List.getD_cons_zero, List.getD_cons_succ, canonP, f1]
    clear f1
    simp only [Oper.gives]
    go_simp
    exact is_mk _ _
  case o5 =>
    intro vals wq hRq hpq
    simp only [factsP, List.getD_cons_zero, List.getD_cons_succ] at hpq
    have f1 := hpq.1
    replace hpq := hpq.2
    have f3 := hpq.1
    replace hpq := hpq.2
    have f4 := hpq.1
    replace hpq := hpq.2
    clear hpq
    replace f1 : vals 1 = _ := f1
    replace f3 : vals 3 = _ := f3
    replace f4 : vals 4 = _ := f4
    simp only [List.getD_cons_zero, List.getD_cons_succ, canonP, f1, f3, f4]
    clear f1 f3 f4
    simp only [Oper.gives]
    go_simp
    exact is_mk _ _
  case o6 =>
    intro vals wq hRq hpq
    simp only [factsP, List.getD_cons_zero, List.getD_cons_succ] at hpq
    have f1 := hpq.1
    replace hpq := hpq.2
    have f5 := hpq.1
    replace hpq := hpq.2
    clear hpq
    replace f1 : vals 1 = _ := f1
    replace f5 : vals 5 = _ := f5
    simp only [List.getD_cons_zero, List.getD_cons_succ, canonP, f1, f5]
    clear f1 f5
    simp only [Oper.gives]
    go_simp
    exact is_mk _ _
  case o7 =>
    intro vals wq hRq hpq
    simp only [factsP, List.getD_cons_zero, List.getD_cons_succ] at hpq
    have f1 := hpq.1
    replace hpq := hpq.2
    clear hpq
    replace f1 : vals 1 = _ := f1
    simp only [List.getD_cons_zero, List.getD_cons_succ, canonP, f1]
    clear f1
    simp only [Oper.gives]
    go_simp
    exact is_mk _ _
  case o8 =>
    intro vals wq hRq hpq
    simp only [factsP, List.getD_cons_zero, List.getD_cons_succ] at hpq
    have f1 := hpq.1
    replace hpq := hpq.2
    have f7 := hpq.1
    replace hpq := hpq.2
    clear hpq
    replace f1 : vals 1 = _ := f1
    replace f7 : vals 7 = _ := f7
    simp only [List.getD_cons_zero, List.getD_cons_succ, canonP, f1, f7]
    clear f1 f7
    simp only [Oper.gives]
    go_simp
    exact is_mk _ _
  case o9 =>
    intro vals wq hRq hpq
    simp only [factsP, List.getD_cons_zero, List.getD_cons_succ] at hpq
    have f1 := hpq.1
    replace hpq := hpq.2
    clear hpq
    replace f1 : vals 1 = _ := f1
    simp only [List.getD_cons_zero, List.getD_cons_succ, canonP, f1]
    clear f1
    simp only [Oper.gives]
    go_simp
    exact is_mk _ _
  case o10 =>
    intro vals wq hRq hpq
    simp only [factsP, List.getD_cons_zero, List.getD_cons_succ] at hpq
    have f1 := hpq.1
    replace hpq := hpq.2
    have f8 := hpq.1
    replace hpq := hpq.2
    have f9 := hpq.1
    replace hpq := hpq.2
    clear hpq
    replace f1 : vals 1 = _ := f1
    replace f8 : vals 8 = _ := f8
    replace f9 : vals 9 = _ := f9
    simp only [List.getD_cons_zero, List.getD_cons_succ, canonP, f1, f8, f9]
    clear f1 f8 f9
    simp only [Oper.gives]
    go_simp
    exact is_mk _ _
  case o11 =>
    intro vals wq hRq hpq
    simp only [factsP, List.getD_cons_zero, List.getD_cons_succ] at hpq
    have f1 := hpq.1
    replace hpq := hpq.2
    have f10 := hpq.1
    replace hpq := hpq.2
    clear hpq
    replace f1 : vals 1 = _ := f1
    replace f10 : vals 10 = _ := f10
    simp only [List.getD_cons_zero, List.getD_cons_succ, canonP, f1, f10]
    clear f1 f10
    simp only [Oper.gives]
    go_simp
    exact is_mk _ _
  case o12 =>
    intro vals wq hRq hpq
    simp only [factsP, List.getD_cons_zero, List.getD_cons_succ] at hpq
    have f1 := hpq.1
    replace hpq := hpq.2
    have f6 := hpq.1
    replace hpq := hpq.2
    have f11 := hpq.1
    replace hpq := hpq.2
    clear hpq
    replace f1 : vals 1 = _ := f1
    replace f6 : vals 6 = _ := f6
    replace f11 : vals 11 = _ := f11
    simp only [List.getD_cons_zero, List.getD_cons_succ, canonP, f1, f6, f11]
    clear f1 f6 f11
    simp only [Oper.gives]
    go_simp
    exact is_mk _ _
  case o13 =>
    intro vals wq hRq hpq
    simp only [factsP, List.getD_cons_zero, List.getD_cons_succ] at hpq
    have f1 := hpq.1
    replace hpq := hpq.2
    have f12 := hpq.1
    replace hpq := hpq.2
    clear hpq
    replace f1 : vals 1 = _ := f1
    replace f12 : vals 12 = _ := f12
    simp only [List.getD_cons_zero, List.getD_cons_succ, canonP, f1, f12]
    clear f1 f12
    simp only [Oper.gives]
    go_simp
    exact ⟨is_mk _ _, (Touch.refl []) _⟩
  case o14 =>
    intro vals wq hRq hpq
    simp only [factsP, List.getD_cons_zero, List.getD_cons_succ] at hpq
    have f0 := hpq.1
    replace hpq := hpq.2
    have f1 := hpq.1
    replace hpq := hpq.2
    have f2 := hpq.1
    replace hpq := hpq.2
    have f3 := hpq.1
    replace hpq := hpq.2
    have f4 := hpq.1
    replace hpq := hpq.2
    have f5 := hpq.1
    replace hpq := hpq.2
    have f6 := hpq.1
    replace hpq := hpq.2
    have f7 := hpq.1
    replace hpq := hpq.2
    have f8 := hpq.1
    replace hpq := hpq.2
    have f9 := hpq.1
    replace hpq := hpq.2
    have f10 := hpq.1
    replace hpq := hpq.2
    have f11 := hpq.1
    replace hpq := hpq.2
    have f12 := hpq.1
    replace hpq := hpq.2
    have f13 := hpq.1
    replace hpq := hpq.2
    clear hpq
    replace f0 : vals 0 = _ := f0
    replace f1 : vals 1 = _ := f1
    replace f2 : vals 2 = _ := f2
    replace f3 : vals 3 = _ := f3
    replace f4 : vals 4 = _ := f4
    replace f5 : vals 5 = _ := f5
    replace f6 : vals 6 = _ := f6
    replace f7 : vals 7 = _ := f7
    replace f8 : vals 8 = _ := f8
    replace f9 : vals 9 = _ := f9
    replace f10 : vals 10 = _ := f10
    replace f11 : vals 11 = _ := f11
    replace f12 : vals 12 = _ := f12
    replace f13 : vals 13 = _ := f13
    simp only [List.getD_cons_zero, List.getD_cons_succ, canonP, f0, f1, f2, f3, f4, f5, f6, f7, f8, f9, f10, f11, f12, f13]
    clear f0 f1 f2 f3 f4 f5 f6 f7 f8 f9 f10 f11 f12 f13
    simp only [Oper.gives]
    go_simp
    exact ⟨is_mk _ _, (Touch.refl []) _⟩
  intro vals wz hRwz hfwz
  simp only [AllFacts] at hfwz
  have g0 := hfwz.1
  replace hfwz := hfwz.2
  have g1 := hfwz.1
  replace hfwz := hfwz.2
  have g2 := hfwz.1
  replace hfwz := hfwz.2
  have g3 := hfwz.1
  replace hfwz := hfwz.2
  have g4 := hfwz.1
  replace hfwz := hfwz.2
  have g5 := hfwz.1
  replace hfwz := hfwz.2
  have g6 := hfwz.1
  replace hfwz := hfwz.2
  have g7 := hfwz.1
  replace hfwz := hfwz.2
  have g8 := hfwz.1
  replace hfwz := hfwz.2
  have g9 := hfwz.1
  replace hfwz := hfwz.2
  have g10 := hfwz.1
  replace hfwz := hfwz.2
  have g11 := hfwz.1
  replace hfwz := hfwz.2
  have g12 := hfwz.1
  replace hfwz := hfwz.2
  have g13 := hfwz.1
  replace hfwz := hfwz.2
  have g14 := hfwz.1
  replace hfwz := hfwz.2
  clear hfwz
  replace g0 : vals 0 = _ := g0
  replace g1 : vals 1 = _ := g1
  replace g2 : vals 2 = _ := g2
  replace g3 : vals 3 = _ := g3
  replace g4 : vals 4 = _ := g4
  replace g5 : vals 5 = _ := g5
  replace g6 : vals 6 = _ := g6
  replace g7 : vals 7 = _ := g7
  replace g8 : vals 8 = _ := g8
  replace g9 : vals 9 = _ := g9
  replace g10 : vals 10 = _ := g10
  replace g11 : vals 11 = _ := g11
  replace g12 : vals 12 = _ := g12
  replace g13 : vals 13 = _ := g13
  replace g14 : vals 14 = _ := g14
  simp only [canonP, Act.put, List.setIfInBounds_toArray, List.set_cons_succ, List.set_cons_zero, g0, g1, g2, g3, g4, g5, g6, g7, g8, g9, g10, g11, g12, g13, g14]
  clear g0 g1 g2 g3 g4 g5 g6 g7 g8 g9 g10 g11 g12 g13 g14
  exact HK.out _ _ _ _ _ _ _ _ _ _ _ _ _ _ ((Touch.drew [] W1).trans hRwz (by simp))
#print axioms little_reg29t
end Go.Proofs.Ytnogajnoghjmhaa
