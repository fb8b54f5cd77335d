/- A disk that nobody made; quernlaw19.many; the law ReplayNone: the walk. -/
import Derived.Test.YtlhhbkpocpnebaaP9
import Derived.Test.YtlhhbkpocpnebaaP2
set_option linter.unusedVariables false
set_option linter.unusedSimpArgs false
namespace Go.Proofs.Ytlhhbkpocpnebaa
open Go.RowKit Go.Maps

def NoDisk (w : World) (v : Value) : Prop := ∀ w', Grow w w' → Calls Try.prog 47 #[v] w' fun e w'' => e = .returned (.bool false) ∧ w' = w''
theorem NoDisk.here {w : World} {v : Value} (h : NoDisk w v) : Calls Try.prog 47 #[v] w fun e w'' => e = .returned (.bool false) ∧ w = w'' := h w (Grow.refl w)
theorem NoDisk.later {w w' : World} {v : Value} (h : NoDisk w v) (hg : Grow w w') : NoDisk w' v := fun w2 h2 => h w2 (hg.trans h2)
theorem noDisk_nil (w : World) : NoDisk w (.pointer none) := fun w' _ => made_nil w'
theorem noDisk_empty {w : World} {B : Nat} (hB : B < w.heap.size) (h : w.cell? ⟨B, 0, none⟩ = some (.slice none 0 0)) : NoDisk w (.pointer (some ⟨B, 0, none⟩)) := fun w' hg => made_empty ((hg.cell (p := ⟨B, 0, none⟩) hB).trans h)
theorem blocks_no {w : World} {v : Value} (h : NoDisk w v) : Calls Try.prog 38 #[v] w fun e w' => e = .returned (.int .i64 0) ∧ w = w' := by
  have HN := Lib.hid h.here
  clear h
  go_enter Try.func38, Try.ntmps38
  go_wp2_with fail
  refine HN.out.mono ?_
  intro e w' hpost
  obtain ⟨he, hw⟩ := hpost
  subst he hw
  go_wp2_with fail
  go_ret
  exact ⟨rfl, rfl⟩
theorem sizeGeo : (Try.prog.info? 43).map (·.size) = some 4 := by kernel_rfl
theorem do_none {w : World} {v : Value} (h : NoDisk w v) (g l : Value) (hg : ∃ a b c d, g = .agg #[.int .i64 a, .int .i64 b, .int .i64 c, .int .i64 d]) (s : Value) : Calls Try.prog 20 #[v, g, l, s] w fun e w' => e = .returned (.int .i64 1) ∧ Grow w w' := by
  obtain ⟨a, b, c, d, rfl⟩ := hg
  have HN := Lib.hid (fun o => blocks_no (h.later (Grow.alloc w o)))
  clear h
  go_enter Try.func20, Try.ntmps20
  go_wp2_with fail
  refine (HN.out _).mono ?_
  intro e w' hpost
  obtain ⟨he, hw⟩ := hpost
  subst he hw
  go_wp2_with fail
  go_ret
  exact ⟨rfl, Grow.alloc _ _⟩
theorem many19_ok {w : World} {v : Value} {l : List TSh} (h : TShIn w v l) (hl : l.length ≤ 9223372036854775807) : Calls Try.prog 10 #[v] w fun e w' => ∃ b, e = .returned (.bool b) ∧ Grow w w' ∧ (b = false → l.length ≤ 60 ∧ sizeT l ≤ 1000) := by
  have HM := Lib.hid (many18_ok h hl 1000 (by omega))
  clear h
  go_enter Try.func10, Try.ntmps10
  go_wp2_with fail
  refine HM.out.mono ?_
  intro e w' hpost
  obtain ⟨b, he, hg, hb⟩ := hpost
  subst he
  have HG := Lib.hid hg
  have HB := Lib.hid hb
  clear hg hb
  go_wp2_with fail
  go_ret
  exact ⟨b, rfl, HG.out, HB.out⟩
theorem overlay_nil (w : World) : Calls Try.prog 14 #[.slice none 0 0] w fun e w' => (∃ a c, e = .returned (.slice a 0 c)) ∧ Grow w w' := by
  refine (overlay_ok (v := .slice none 0 0) (xs := []) ⟨rowNil _ _ _, fun x hx => by simp at hx⟩ (by simp) (by simp [copyN])).mono fun e w' h => ?_
  obtain ⟨v, zs, he, hr, hc, hg, _⟩ := h
  have hz : zs = [] := by
    cases zs with
    | nil => rfl
    | cons z zs => have := (hr.mem z).1 (by simp); simp [HasM, ov] at this
  subst hz
  obtain ⟨a, c, rfl⟩ := CRow.len hc
  exact ⟨⟨a, c, he⟩, hg⟩
theorem over_nil {w : World} {v : Value} {cs : List Cp} (h : CRow w v cs) (hl : cs.length ≤ 1000000 := by simp) (hok : ∀ c ∈ cs, IntOk c.1 := by intro c hc; rw [List.mem_singleton.1 hc]; unfold zeroC IntOk; omega) : Calls Try.prog 15 #[.slice none 0 0, v] w fun e w' => (∃ a c, e = .returned (.slice a 0 c)) ∧ Grow w w' := by
  refine (over_ok (v := .slice none 0 0) (l := []) (rowNil _ _ _) h (by simp) hl hok).mono fun e w' h => ?_
  obtain ⟨v, he, hr, hg, _⟩ := h
  obtain ⟨a, c, rfl⟩ := BRow.len hr
  rw [overB_length] at he
  exact ⟨⟨a, c, he⟩, hg⟩
def AnyV : Value → World → Prop := fun _ _ => True
theorem any_stab (R : World → World → Prop) : Stab R AnyV := fun _ _ _ _ _ => trivial
def NoDiskA : Value → World → Prop := fun v w => NoDisk w v
theorem nodisk_stab : Stab (Touch []) NoDiskA := fun v w w' ht h => h.later (ht.below (Nat.le_refl _) (by simp))
def ZeroLen : Value → World → Prop := fun v w => ∃ a c, v = .slice a 0 c
theorem zl_stab (R : World → World → Prop) : Stab R ZeroLen := fun v w w' _ h => h
theorem one_stab (W : World) (c : List Value) : Stab (Touch []) (OneAtE 40 [] W c) := fun v w w' ht h => h.touch ht (fun _ h => h)
theorem gives_len0 {o : Oper} {a : Act} {w : World} {T : Value → World → Prop} (x : Operand) (t : TypeId) (ho : o.op = .call { callee := .builtin .len, args := #[x], argTypes := #[t] }) {v : Value} (hx : a.eval x = v) (hr : ZeroLen v w) (hT : T (.int .i64 0) w) (hu : ∃ e, Try.prog.underlying t = some (.slice e) := by exact ⟨_, rfl⟩) : Oper.gives Try.prog o a w T := by
  obtain ⟨p, c, rfl⟩ := hr
  obtain ⟨e, hu⟩ := hu
  refine gives_run (v := .int .i64 0) (w' := w) ?_ hT
  unfold execOp
  simp [ho, resolve, invoke, builtin, hx, Builtin.len_, run_underlying hu, goInt, Result.andThen]
theorem crow_one {W w : World} {v : Value} {S : List Nat} {c : Cp} (h : OneAtE 40 S W (ccell c) v w) (hc : c.2.length = 256) : CRow w v [c] := by
  obtain ⟨hv, hh, _⟩ := h
  rw [hv]
  exact ⟨fun d hd => by rw [List.map_cons, List.map_nil] at hd; rw [List.mem_singleton.1 hd]; exact ccell_length hc, by simp [ccell_length hc], .inr ⟨v.ownBlock.getD 0, 1, (ccell c).toArray, rfl, Nat.zero_le _, hh, by simp, by unfold maxLen; simp, by simp [ccell_length hc], by simp only [List.length_cons, List.length_nil, List.map_cons, List.map_nil, List.flatten_cons, List.flatten_nil, List.append_nil, List.toList_toArray]; rw [show (0 + 1) * 257 = (ccell c).length by rw [ccell_length hc]]; exact List.take_length⟩⟩
set_option maxRecDepth 100000 in
set_option maxHeartbeats 8000000 in
theorem none_walk (g0 g1 g2 g3 : Int) {w : World} {v : Value} {l : List TSh} (h : TShIn w v l) (hl : l.length ≤ 9223372036854775807) (s : Int) :
    Calls Try.prog 4 #[.agg #[.int .i64 g0, .int .i64 g1, .int .i64 g2, .int .i64 g3], v, .int .u32 s] w fun e w' => e = .returned (.bool true) ∧ Below w.heap.size w w' := by
  have h' := h
  obtain ⟨a, cap, hv, _⟩ := h
  obtain ⟨n, hn⟩ : ∃ n, n = l.length := ⟨_, rfl⟩
  rw [← hn] at hv
  subst hv
  have HM := Lib.hid (many19_ok (h'.grow (Grow.alloc w (.cells #[.int .i64 g0, .int .i64 g1, .int .i64 g2, .int .i64 g3] 43))) hl)
  have HT0 := Lib.hid (h'.grow (Grow.alloc w (.cells #[.int .i64 g0, .int .i64 g1, .int .i64 g2, .int .i64 g3] 43)))
  have HP0 := Lib.hid (heap_alloc_last w (.cells #[.int .i64 g0, .int .i64 g1, .int .i64 g2, .int .i64 g3] 43))
  have HG0 := Lib.hid (Grow.alloc w (.cells #[.int .i64 g0, .int .i64 g1, .int .i64 g2, .int .i64 g3] 43))
  have HS0 := Lib.hid (show w.heap.size < (w.alloc (.cells #[.int .i64 g0, .int .i64 g1, .int .i64 g2, .int .i64 g3] 43)).heap.size by simp)
  have HBZ := Lib.hid (show Try.prog.built 40 [] = some (ccell zeroC).toArray by kernel_rfl)
  clear h' hn
  go_enter Try.func4, Try.ntmps4
  go_wp2_with fail
  obtain ⟨W0, hW0⟩ : ∃ W0, W0 = w.alloc (.cells #[.int .i64 g0, .int .i64 g1, .int .i64 g2, .int .i64 g3] 43) := ⟨_, rfl⟩
  rw [← hW0] at HM HT0 HP0 HG0 HS0 ⊢
  clear hW0
  refine HM.out.mono ?_
  intro e W1 hpost
  obtain ⟨b, he, hg, hb⟩ := hpost
  subst he
  have HG1 := Lib.hid (Grow.trans HG0.out hg)
  have HT := Lib.hid (HT0.out.grow hg)
  have HPG := Lib.hid ((hg.block w.heap.size HS0.out).trans HP0.out)
  have HPL := Lib.hid (Nat.lt_of_lt_of_le HS0.out hg.size)
  obtain ⟨PG, hPG⟩ : ∃ PG, PG = w.heap.size := ⟨_, rfl⟩
  rw [← hPG] at HPG HPL ⊢
  clear hPG
  cases b with
  | true =>
    clear hg hb
    go_wp2_with fail
    go_ret
    exact ⟨rfl, HG1.out⟩
  | false =>
    have HL := Lib.hid (hb rfl).1
    have HSZ := Lib.hid (Nat.le_trans (hb rfl).2 (show 1000 ≤ 100000 by omega))
    clear hg hb HM HT0 HP0 HG0 HS0
    go_upto_region 3 with (fail)
    refine wp_region_facts (by kernel_rfl) [[], [], [(1, some 10)], [], [(0, some 9), (2, some 11), (3, some 12)], [(4, some 13)], [(4, some 13), (5, some 14)], [(6, some 15)], [(6, some 15), (7, some 16)], [(6, some 15)], [(6, some 15)], [(6, some 15), (10, some 19)], [(6, some 15)], [(6, some 15), (8, some 17), (9, some 18), (11, some 20), (12, some 21)], [(6, some 15), (13, some 22)], [(6, some 15), (14, some 23)], [(13, some 22), (15, some 24)], [(16, some 25)], [(16, some 25), (17, some 26)], [(16, some 25), (18, some 27)], [(16, some 25), (19, some 28)], [(17, some 26), (20, some 29)], [(21, some 30)], [(21, some 30), (22, some 31)], [(21, some 30), (23, some 32)], [(21, some 30), (24, some 33)], [(21, some 30), (25, some 34)], [(21, some 30), (26, some 35)], [(0, some 9), (1, some 10), (2, some 11), (3, some 12), (4, some 13), (5, some 14), (6, some 15), (7, some 16), (8, some 17), (9, some 18), (10, some 19), (11, some 20), (12, some 21), (13, some 22), (14, some 23), (15, some 24), (16, some 25), (17, some 26), (18, some 27), (19, some 28), (20, some 29), (21, some 30), (22, some 31), (23, some 32), (24, some 33), (25, some 34), (26, some 35), (27, some 36)]] [(0, some 9), (1, some 10), (2, some 11), (3, some 12), (4, some 13), (5, some 14), (6, some 15), (7, some 16), (8, some 17), (9, some 18), (10, some 19), (11, some 20), (12, some 21), (13, some 22), (14, some 23), (15, some 24), (16, some 25), (17, some 26), (18, some 27), (19, some 28), (20, some 29), (21, some 30), (22, some 31), (23, some 32), (24, some 33), (25, some 34), (26, some 35), (27, some 36), (28, some 6)] (by kernel_rfl) (by kernel_rfl) (by kernel_rfl) (Touch []) (Touch.refl []) (fun _ _ _ h h' => h.trans h' (fun i hi => .inl hi)) [Is (Value.agg #[.int .i64 g0, .int .i64 g1, .int .i64 g2, .int .i64 g3]), Is (Value.slice a n cap), AnyV, Is (Value.int .u32 s), Is (Value.int .i64 1), Is (Value.bool true), Is (Value.bool true), Is (Value.agg #[.slice none 0 0, .slice none 0 0, .slice none 0 0, .int .i64 0, .bool false, .int .i64 0]), NoDiskA, Is (Value.agg #[.int .i64 g0, .int .i64 g1, .int .i64 g2, .int .i64 g3]), Is (Value.slice a n cap), AnyV, Is (Value.int .u32 s), Is (Value.int .i64 1), Is (Value.bool true), Is (Value.bool true), Is (Value.bool true), ZeroLen, Is (Value.int .i64 0), Is (Value.bool true), Is (Value.bool true), Is (Value.bool true), Is (Value.agg (ccell zeroC).toArray), OneAtE 40 [] W1 (ccell zeroC), ZeroLen, Is (Value.int .i64 0), Is (Value.bool true), Is (Value.bool true), Is (Value.bool true)] rfl ⟨is_stab _ _, is_stab _ _, any_stab _, is_stab _ _, is_stab _ _, is_stab _ _, is_stab _ _, is_stab _ _, nodisk_stab, is_stab _ _, is_stab _ _, any_stab _, is_stab _ _, is_stab _ _, is_stab _ _, is_stab _ _, is_stab _ _, zl_stab _, is_stab _ _, is_stab _ _, is_stab _ _, is_stab _ _, is_stab _ _, one_stab _ _, zl_stab _, is_stab _ _, is_stab _ _, is_stab _ _, is_stab _ _, trivial⟩ ⟨?o0, ?o1, ?o2, ?o3, ?o4, ?o5, ?o6, ?o7, ?o8, ?o9, ?o10, ?o11, ?o12, ?o13, ?o14, ?o15, ?o16, ?o17, ?o18, ?o19, ?o20, ?o21, ?o22, ?o23, ?o24, ?o25, ?o26, ?o27, ?o28, trivial⟩ ?_
    case o0 =>
      intro vals wq hRq hpq
      simp only [List.getD_cons_zero, List.getD_cons_succ, canonP]
      have hbx : wq.heap[PG]? = some (.cells #[.int .i64 g0, .int .i64 g1, .int .i64 g2, .int .i64 g3] 43) := (hRq.block PG HPL.out (by simp)).trans HPG.out
      rw [if_pos (by rfl)]
      exact gives_load_row 43 _ rfl PG rfl 43 #[.int .i64 g0, .int .i64 g1, .int .i64 g2, .int .i64 g3] (0, 0) _ hbx Try.underlying43 rfl sizeGeo ⟨is_mk _ _, Touch.refl _ _⟩
    case o1 =>
      intro vals wq hRq hpq
      simp only [List.getD_cons_zero, List.getD_cons_succ, canonP]
      simp only [Oper.gives]
      go_simp
      exact ⟨is_mk _ _, (Touch.refl []) _⟩
    case o2 =>
      intro vals wq hRq hpq
      simp only [factsP, List.getD_cons_zero, List.getD_cons_succ] at hpq
      have f1 := hpq.1
      replace hpq := hpq.2
      clear hpq
      replace f1 : vals 1 = _ := f1
      simp only [List.getD_cons_zero, List.getD_cons_succ, canonP, f1]
      clear f1
      simp only [Oper.gives]
      go_simp
      exact (short_ok (HT.out.grow (Touch.below ((Touch.drew [] W1).trans hRq (by simp)) (Nat.le_refl _) (by simp))) HL.out HSZ.out).mono fun e w' ⟨v, xs, he, hs⟩ => ⟨_, he, trivial, Touch.of_below hs.grow⟩
    case o3 =>
      intro vals wq hRq hpq
      simp only [List.getD_cons_zero, List.getD_cons_succ, canonP]
      simp only [Oper.gives]
      go_simp
      exact ⟨is_mk _ _, (Touch.refl []) _⟩
    case o4 =>
      intro vals wq hRq hpq
      simp only [factsP, List.getD_cons_zero, List.getD_cons_succ] at hpq
      have f0 := hpq.1
      replace hpq := hpq.2
      have f2 := hpq.1
      replace hpq := hpq.2
      have f3 := hpq.1
      replace hpq := hpq.2
      clear hpq
      replace f0 : vals 0 = _ := f0
      replace f3 : vals 3 = _ := f3
      simp only [List.getD_cons_zero, List.getD_cons_succ, canonP, f0, f3]
      clear f0 f3
      simp only [Oper.gives]
      go_simp
      exact (do_none (noDisk_nil wq) _ _ ⟨_, _, _, _, rfl⟩ _).mono fun e w' ⟨he, hg⟩ => ⟨_, he, is_mk _ _, Touch.of_below hg⟩
    case o5 =>
      intro vals wq hRq hpq
      simp only [factsP, List.getD_cons_zero, List.getD_cons_succ] at hpq
      have f4 := hpq.1
      replace hpq := hpq.2
      clear hpq
      replace f4 : vals 4 = _ := f4
      simp only [List.getD_cons_zero, List.getD_cons_succ, canonP, f4]
      clear f4
      simp only [Oper.gives]
      go_simp
      exact ⟨is_mk _ _, (Touch.refl []) _⟩
    case o6 =>
      intro vals wq hRq hpq
      simp only [factsP, List.getD_cons_zero, List.getD_cons_succ] at hpq
      have f4 := hpq.1
      replace hpq := hpq.2
      have f5 := hpq.1
      replace hpq := hpq.2
      clear hpq
      replace f4 : vals 4 = _ := f4
      replace f5 : vals 5 = _ := f5
      simp only [List.getD_cons_zero, List.getD_cons_succ, canonP, f4, f5]
      clear f4 f5
      simp only [Oper.gives]
      go_simp
      exact ⟨is_mk _ _, (Touch.refl []) _⟩
    case o7 =>
      intro vals wq hRq hpq
      simp only [factsP, List.getD_cons_zero, List.getD_cons_succ] at hpq
      have f6 := hpq.1
      replace hpq := hpq.2
      clear hpq
      replace f6 : vals 6 = _ := f6
      simp only [List.getD_cons_zero, List.getD_cons_succ, canonP, f6]
      clear f6
      simp only [Oper.gives]
      go_simp
      exact ⟨is_mk _ _, Touch.refl _ _⟩
    case o8 =>
      intro vals wq hRq hpq
      simp only [factsP, List.getD_cons_zero, List.getD_cons_succ] at hpq
      have f6 := hpq.1
      replace hpq := hpq.2
      have f7 := hpq.1
      replace hpq := hpq.2
      clear hpq
      replace f6 : vals 6 = _ := f6
      replace f7 : vals 7 = _ := f7
      simp only [List.getD_cons_zero, List.getD_cons_succ, canonP, f6, f7]
      clear f6 f7
      simp only [Oper.gives]
      go_simp
      exact ⟨noDisk_empty (by simp) (cell_at (heap_alloc_last _ _) 0), Touch.alloc _ _ _⟩
    case o9 =>
      intro vals wq hRq hpq
      simp only [factsP, List.getD_cons_zero, List.getD_cons_succ] at hpq
      have f6 := hpq.1
      replace hpq := hpq.2
      clear hpq
      replace f6 : vals 6 = _ := f6
      simp only [List.getD_cons_zero, List.getD_cons_succ, canonP, f6]
      clear f6
      have hbx : wq.heap[PG]? = some (.cells #[.int .i64 g0, .int .i64 g1, .int .i64 g2, .int .i64 g3] 43) := (hRq.block PG HPL.out (by simp)).trans HPG.out
      rw [if_pos (by rfl)]
      exact gives_load_row 43 _ rfl PG rfl 43 #[.int .i64 g0, .int .i64 g1, .int .i64 g2, .int .i64 g3] (0, 0) _ hbx Try.underlying43 rfl sizeGeo ⟨is_mk _ _, Touch.refl _ _⟩
    case o10 =>
      intro vals wq hRq hpq
      simp only [factsP, List.getD_cons_zero, List.getD_cons_succ] at hpq
      have f6 := hpq.1
      replace hpq := hpq.2
      clear hpq
      replace f6 : vals 6 = _ := f6
      simp only [List.getD_cons_zero, List.getD_cons_succ, canonP, f6]
      clear f6
      simp only [Oper.gives]
      go_simp
      exact ⟨is_mk _ _, (Touch.refl []) _⟩
    case o11 =>
      intro vals wq hRq hpq
      simp only [factsP, List.getD_cons_zero, List.getD_cons_succ] at hpq
      have f6 := hpq.1
      replace hpq := hpq.2
      have f10 := hpq.1
      replace hpq := hpq.2
      clear hpq
      replace f6 : vals 6 = _ := f6
      replace f10 : vals 10 = _ := f10
      simp only [List.getD_cons_zero, List.getD_cons_succ, canonP, f6, f10]
      clear f6 f10
      simp only [Oper.gives]
      go_simp
      exact (short_ok (HT.out.grow (Touch.below ((Touch.drew [] W1).trans hRq (by simp)) (Nat.le_refl _) (by simp))) HL.out HSZ.out).mono fun e w' ⟨v, xs, he, hs⟩ => ⟨_, he, trivial, Touch.of_below hs.grow⟩
    case o12 =>
      intro vals wq hRq hpq
      simp only [factsP, List.getD_cons_zero, List.getD_cons_succ] at hpq
      have f6 := hpq.1
      replace hpq := hpq.2
      clear hpq
      replace f6 : vals 6 = _ := f6
      simp only [List.getD_cons_zero, List.getD_cons_succ, canonP, f6]
      clear f6
      simp only [Oper.gives]
      go_simp
      exact ⟨is_mk _ _, (Touch.refl []) _⟩
    case o13 =>
      intro vals wq hRq hpq
      simp only [factsP, List.getD_cons_zero, List.getD_cons_succ] at hpq
      have f6 := hpq.1
      replace hpq := hpq.2
      have f8 := hpq.1
      replace hpq := hpq.2
      have f9 := hpq.1
      replace hpq := hpq.2
      have f11 := hpq.1
      replace hpq := hpq.2
      have f12 := hpq.1
      replace hpq := hpq.2
      clear hpq
      replace f6 : vals 6 = _ := f6
      replace f9 : vals 9 = _ := f9
      replace f12 : vals 12 = _ := f12
      simp only [List.getD_cons_zero, List.getD_cons_succ, canonP, f6, f9, f12]
      clear f6 f9 f12
      have hnd : NoDisk wq (vals 8) := f8
      simp only [Oper.gives]
      go_simp
      exact (do_none hnd _ _ ⟨_, _, _, _, rfl⟩ _).mono fun e w' ⟨he, hg⟩ => ⟨_, he, is_mk _ _, Touch.of_below hg⟩
    case o14 =>
      intro vals wq hRq hpq
      simp only [factsP, List.getD_cons_zero, List.getD_cons_succ] at hpq
      have f6 := hpq.1
      replace hpq := hpq.2
      have f13 := hpq.1
      replace hpq := hpq.2
      clear hpq
      replace f6 : vals 6 = _ := f6
      replace f13 : vals 13 = _ := f13
      simp only [List.getD_cons_zero, List.getD_cons_succ, canonP, f6, f13]
      clear f6 f13
      simp only [Oper.gives]
      go_simp
      exact ⟨is_mk _ _, (Touch.refl []) _⟩
    case o15 =>
      intro vals wq hRq hpq
      simp only [factsP, List.getD_cons_zero, List.getD_cons_succ] at hpq
      have f6 := hpq.1
      replace hpq := hpq.2
      have f14 := hpq.1
      replace hpq := hpq.2
      clear hpq
      replace f6 : vals 6 = _ := f6
      replace f14 : vals 14 = _ := f14
      simp only [List.getD_cons_zero, List.getD_cons_succ, canonP, f6, f14]
      clear f6 f14
      simp only [Oper.gives]
      go_simp
      exact ⟨is_mk _ _, (Touch.refl []) _⟩
    case o16 =>
      intro vals wq hRq hpq
      simp only [factsP, List.getD_cons_zero, List.getD_cons_succ] at hpq
      have f13 := hpq.1
      replace hpq := hpq.2
      have f15 := hpq.1
      replace hpq := hpq.2
      clear hpq
      replace f13 : vals 13 = _ := f13
      replace f15 : vals 15 = _ := f15
      simp only [List.getD_cons_zero, List.getD_cons_succ, canonP, f13, f15]
      clear f13 f15
      simp only [Oper.gives]
      go_simp
      exact ⟨is_mk _ _, (Touch.refl []) _⟩
    case o17 =>
      intro vals wq hRq hpq
      simp only [factsP, List.getD_cons_zero, List.getD_cons_succ] at hpq
      have f16 := hpq.1
      replace hpq := hpq.2
      clear hpq
      replace f16 : vals 16 = _ := f16
      simp only [List.getD_cons_zero, List.getD_cons_succ, canonP, f16]
      clear f16
      simp only [Oper.gives]
      go_simp
      exact (overlay_nil wq).mono fun e w' ⟨⟨a, c, he⟩, hg⟩ => ⟨_, he, ⟨a, c, rfl⟩, Touch.of_below hg⟩
    case o18 =>
      intro vals wq hRq hpq
      simp only [factsP, List.getD_cons_zero, List.getD_cons_succ] at hpq
      have f16 := hpq.1
      replace hpq := hpq.2
      have f17 := hpq.1
      replace hpq := hpq.2
      clear hpq
      replace f16 : vals 16 = _ := f16
      simp only [List.getD_cons_zero, List.getD_cons_succ, canonP, f16]
      clear f16
      rw [if_pos (by rfl)]
      exact gives_len0 _ _ rfl rfl f17 ⟨is_mk _ _, Touch.refl _ _⟩
    case o19 =>
      intro vals wq hRq hpq
      simp only [factsP, List.getD_cons_zero, List.getD_cons_succ] at hpq
      have f16 := hpq.1
      replace hpq := hpq.2
      have f18 := hpq.1
      replace hpq := hpq.2
      clear hpq
      replace f16 : vals 16 = _ := f16
      replace f18 : vals 18 = _ := f18
      simp only [List.getD_cons_zero, List.getD_cons_succ, canonP, f16, f18]
      clear f16 f18
      simp only [Oper.gives]
      go_simp
      exact ⟨is_mk _ _, (Touch.refl []) _⟩
    case o20 =>
      intro vals wq hRq hpq
      simp only [factsP, List.getD_cons_zero, List.getD_cons_succ] at hpq
      have f16 := hpq.1
      replace hpq := hpq.2
      have f19 := hpq.1
      replace hpq := hpq.2
      clear hpq
      replace f16 : vals 16 = _ := f16
      replace f19 : vals 19 = _ := f19
      simp only [List.getD_cons_zero, List.getD_cons_succ, canonP, f16, f19]
      clear f16 f19
      simp only [Oper.gives]
      go_simp
      exact ⟨is_mk _ _, (Touch.refl []) _⟩
    case o21 =>
      intro vals wq hRq hpq
      simp only [factsP, List.getD_cons_zero, List.getD_cons_succ] at hpq
      have f17 := hpq.1
      replace hpq := hpq.2
      have f20 := hpq.1
      replace hpq := hpq.2
      clear hpq
      replace f20 : vals 20 = _ := f20
      simp only [List.getD_cons_zero, List.getD_cons_succ, canonP, f20]
      clear f20
      simp only [Oper.gives]
      go_simp
      exact ⟨is_mk _ _, (Touch.refl []) _⟩
    case o22 =>
      intro vals wq hRq hpq
      simp only [factsP, List.getD_cons_zero, List.getD_cons_succ] at hpq
      have f21 := hpq.1
      replace hpq := hpq.2
      clear hpq
      replace f21 : vals 21 = _ := f21
      simp only [List.getD_cons_zero, List.getD_cons_succ, canonP, f21]
      clear f21
      rw [if_pos (by rfl)]
      exact gives_build 40 _ rfl (ccell zeroC).toArray (by simp only [List.map_toArray, List.map_nil]; exact HBZ.out) ⟨is_mk _ _, Touch.refl _ _⟩
    case o23 =>
      intro vals wq hRq hpq
      simp only [factsP, List.getD_cons_zero, List.getD_cons_succ] at hpq
      have f21 := hpq.1
      replace hpq := hpq.2
      have f22 := hpq.1
      replace hpq := hpq.2
      clear hpq
      replace f21 : vals 21 = _ := f21
      replace f22 : vals 22 = _ := f22
      simp only [List.getD_cons_zero, List.getD_cons_succ, canonP, f21, f22]
      clear f21 f22
      have hsz : W1.heap.size ≤ wq.heap.size := hRq.size
      rw [if_pos (by rfl)]
      exact gives_buildSlice 33 1 _ rfl (v := .slice (some ⟨wq.heap.size, 0, none⟩) 1 1) (w' := wq.alloc (.cells (ccell zeroC).toArray 40)) (by simp only [List.map_toArray, List.map_cons, List.map_nil]; exact buildSlice_copy zeroC zeroC_ok wq) ⟨⟨rfl, heap_alloc_last _ _, by simp, hsz⟩, Touch.alloc _ _ _⟩
    case o24 =>
      intro vals wq hRq hpq
      simp only [factsP, List.getD_cons_zero, List.getD_cons_succ] at hpq
      have f21 := hpq.1
      replace hpq := hpq.2
      have f23 := hpq.1
      replace hpq := hpq.2
      clear hpq
      replace f21 : vals 21 = _ := f21
      simp only [List.getD_cons_zero, List.getD_cons_succ, canonP, f21]
      clear f21
      have hcr : CRow wq (vals 23) [zeroC] := crow_one f23 zeroC_ok
      simp only [Oper.gives]
      go_simp
      exact (over_nil hcr).mono fun e w' ⟨⟨a, c, he⟩, hg⟩ => ⟨_, he, ⟨a, c, rfl⟩, Touch.of_below hg⟩
    case o25 =>
      intro vals wq hRq hpq
      simp only [factsP, List.getD_cons_zero, List.getD_cons_succ] at hpq
      have f21 := hpq.1
      replace hpq := hpq.2
      have f24 := hpq.1
      replace hpq := hpq.2
      clear hpq
      replace f21 : vals 21 = _ := f21
      simp only [List.getD_cons_zero, List.getD_cons_succ, canonP, f21]
      clear f21
      rw [if_pos (by rfl)]
      exact gives_len0 _ _ rfl rfl f24 ⟨is_mk _ _, Touch.refl _ _⟩
    case o26 =>
      intro vals wq hRq hpq
      simp only [factsP, List.getD_cons_zero, List.getD_cons_succ] at hpq
      have f21 := hpq.1
      replace hpq := hpq.2
      have f25 := hpq.1
      replace hpq := hpq.2
      clear hpq
      replace f21 : vals 21 = _ := f21
      replace f25 : vals 25 = _ := f25
      simp only [List.getD_cons_zero, List.getD_cons_succ, canonP, f21, f25]
      clear f21 f25
      simp only [Oper.gives]
      go_simp
      exact ⟨is_mk _ _, (Touch.refl []) _⟩
    case o27 =>
      intro vals wq hRq hpq
      simp only [factsP, List.getD_cons_zero, List.getD_cons_succ] at hpq
      have f21 := hpq.1
      replace hpq := hpq.2
      have f26 := hpq.1
      replace hpq := hpq.2
      clear hpq
      replace f21 : vals 21 = _ := f21
      replace f26 : vals 26 = _ := f26
      simp only [List.getD_cons_zero, List.getD_cons_succ, canonP, f21, f26]
      clear f21 f26
      simp only [Oper.gives]
      go_simp
      exact ⟨is_mk _ _, (Touch.refl []) _⟩
    case o28 =>
      intro vals wq hRq hpq
      simp only [factsP, List.getD_cons_zero, List.getD_cons_succ] at hpq
      have f0 := hpq.1
      replace hpq := hpq.2
      have f1 := hpq.1
      replace hpq := hpq.2
      have f2 := hpq.1
      replace hpq := hpq.2
      have f3 := hpq.1
      replace hpq := hpq.2
      have f4 := hpq.1
      replace hpq := hpq.2
      have f5 := hpq.1
      replace hpq := hpq.2
      have f6 := hpq.1
      replace hpq := hpq.2
      have f7 := hpq.1
      replace hpq := hpq.2
      have f8 := hpq.1
      replace hpq := hpq.2
      have f9 := hpq.1
      replace hpq := hpq.2
      have f10 := hpq.1
      replace hpq := hpq.2
      have f11 := hpq.1
      replace hpq := hpq.2
      have f12 := hpq.1
      replace hpq := hpq.2
      have f13 := hpq.1
      replace hpq := hpq.2
      have f14 := hpq.1
      replace hpq := hpq.2
      have f15 := hpq.1
      replace hpq := hpq.2
      have f16 := hpq.1
      replace hpq := hpq.2
      have f17 := hpq.1
      replace hpq := hpq.2
      have f18 := hpq.1
      replace hpq := hpq.2
      have f19 := hpq.1
      replace hpq := hpq.2
      have f20 := hpq.1
      replace hpq := hpq.2
      have f21 := hpq.1
      replace hpq := hpq.2
      have f22 := hpq.1
      replace hpq := hpq.2
      have f23 := hpq.1
      replace hpq := hpq.2
      have f24 := hpq.1
      replace hpq := hpq.2
      have f25 := hpq.1
      replace hpq := hpq.2
      have f26 := hpq.1
      replace hpq := hpq.2
      have f27 := hpq.1
      replace hpq := hpq.2
      clear hpq
      replace f0 : vals 0 = _ := f0
      replace f1 : vals 1 = _ := f1
      replace f3 : vals 3 = _ := f3
      replace f4 : vals 4 = _ := f4
      replace f5 : vals 5 = _ := f5
      replace f6 : vals 6 = _ := f6
      replace f7 : vals 7 = _ := f7
      replace f9 : vals 9 = _ := f9
      replace f10 : vals 10 = _ := f10
      replace f12 : vals 12 = _ := f12
      replace f13 : vals 13 = _ := f13
      replace f14 : vals 14 = _ := f14
      replace f15 : vals 15 = _ := f15
      replace f16 : vals 16 = _ := f16
      replace f18 : vals 18 = _ := f18
      replace f19 : vals 19 = _ := f19
      replace f20 : vals 20 = _ := f20
      replace f21 : vals 21 = _ := f21
      replace f22 : vals 22 = _ := f22
      replace f25 : vals 25 = _ := f25
      replace f26 : vals 26 = _ := f26
      replace f27 : vals 27 = _ := f27
      simp only [List.getD_cons_zero, List.getD_cons_succ, canonP, f0, f1, f3, f4, f5, f6, f7, f9, f10, f12, f13, f14, f15, f16, f18, f19, f20, f21, f22, f25, f26, f27]
      clear f0 f1 f3 f4 f5 f6 f7 f9 f10 f12 f13 f14 f15 f16 f18 f19 f20 f21 f22 f25 f26 f27
      simp only [Oper.gives]
      go_simp
      exact ⟨is_mk _ _, (Touch.refl []) _⟩
    intro vals W6 hRW6 hfW6
    simp only [AllFacts] at hfW6
    have g0 := hfW6.1
    replace hfW6 := hfW6.2
    have g1 := hfW6.1
    replace hfW6 := hfW6.2
    have g2 := hfW6.1
    replace hfW6 := hfW6.2
    have g3 := hfW6.1
    replace hfW6 := hfW6.2
    have g4 := hfW6.1
    replace hfW6 := hfW6.2
    have g5 := hfW6.1
    replace hfW6 := hfW6.2
    have g6 := hfW6.1
    replace hfW6 := hfW6.2
    have g7 := hfW6.1
    replace hfW6 := hfW6.2
    have g8 := hfW6.1
    replace hfW6 := hfW6.2
    have g9 := hfW6.1
    replace hfW6 := hfW6.2
    have g10 := hfW6.1
    replace hfW6 := hfW6.2
    have g11 := hfW6.1
    replace hfW6 := hfW6.2
    have g12 := hfW6.1
    replace hfW6 := hfW6.2
    have g13 := hfW6.1
    replace hfW6 := hfW6.2
    have g14 := hfW6.1
    replace hfW6 := hfW6.2
    have g15 := hfW6.1
    replace hfW6 := hfW6.2
    have g16 := hfW6.1
    replace hfW6 := hfW6.2
    have g17 := hfW6.1
    replace hfW6 := hfW6.2
    have g18 := hfW6.1
    replace hfW6 := hfW6.2
    have g19 := hfW6.1
    replace hfW6 := hfW6.2
    have g20 := hfW6.1
    replace hfW6 := hfW6.2
    have g21 := hfW6.1
    replace hfW6 := hfW6.2
    have g22 := hfW6.1
    replace hfW6 := hfW6.2
    have g23 := hfW6.1
    replace hfW6 := hfW6.2
    have g24 := hfW6.1
    replace hfW6 := hfW6.2
    have g25 := hfW6.1
    replace hfW6 := hfW6.2
    have g26 := hfW6.1
    replace hfW6 := hfW6.2
    have g27 := hfW6.1
    replace hfW6 := hfW6.2
    have g28 := hfW6.1
    replace hfW6 := hfW6.2
    clear hfW6
    replace g0 : vals 0 = _ := g0
    replace g1 : vals 1 = _ := g1
    replace g3 : vals 3 = _ := g3
    replace g4 : vals 4 = _ := g4
    replace g5 : vals 5 = _ := g5
    replace g6 : vals 6 = _ := g6
    replace g7 : vals 7 = _ := g7
    replace g9 : vals 9 = _ := g9
    replace g10 : vals 10 = _ := g10
    replace g12 : vals 12 = _ := g12
    replace g13 : vals 13 = _ := g13
    replace g14 : vals 14 = _ := g14
    replace g15 : vals 15 = _ := g15
    replace g16 : vals 16 = _ := g16
    replace g18 : vals 18 = _ := g18
    replace g19 : vals 19 = _ := g19
    replace g20 : vals 20 = _ := g20
    replace g21 : vals 21 = _ := g21
    replace g22 : vals 22 = _ := g22
    replace g25 : vals 25 = _ := g25
    replace g26 : vals 26 = _ := g26
    replace g27 : vals 27 = _ := g27
    replace g28 : vals 28 = _ := g28
    simp only [canonP, Act.put, List.setIfInBounds_toArray, List.set_cons_succ, List.set_cons_zero, g0, g1, g3, g4, g5, g6, g7, g9, g10, g12, g13, g14, g15, g16, g18, g19, g20, g21, g22, g25, g26, g27, g28]
    clear g0 g1 g2 g3 g4 g5 g6 g7 g8 g9 g10 g11 g12 g13 g14 g15 g16 g17 g18 g19 g20 g21 g22 g23 g24 g25 g26 g27 g28
    have HR6 := Lib.hid (show Grow W1 W6 from ((Touch.drew [] W1).trans hRW6 (by simp)).below (Nat.le_refl _) (by simp))
    clear hRW6
    go_wp2_with fail
    go_ret
    exact ⟨rfl, Grow.trans HG1.out HR6.out⟩
#print axioms none_walk
end Go.Proofs.Ytlhhbkpocpnebaa
