/- The law ReplayLast: the walk. -/
import Derived.Test.YtlhhbkpocpnebaaP24a
import Derived.Test.YtlhhbkpocpnebaaP24e
import Derived.Test.YtlhhbkpocpnebaaP24c
import Derived.Test.YtlhhbkpocpnebaaP24d
import Derived.Test.YtlhhbkpocpnebaaP23
set_option linter.unusedVariables false
set_option linter.unusedSimpArgs false
namespace Go.Proofs.Ytlhhbkpocpnebaa
open Go.RowKit Go.Maps

def TShInA (l : List TSh) : Value → World → Prop := fun v w => TShIn w v l
theorem tshin_stab (l : List TSh) : Stab (Touch []) (TShInA l) := fun v w w' ht h => h.grow (ht.below (Nat.le_refl _) (by simp))
def SStA (W : World) (l : List PT) : Value → World → Prop := fun v w => ∃ xs, SSt W v xs l w
theorem sst_stab (W : World) (l : List PT) : Stab (Touch []) (SStA W l) := fun v w w' ht ⟨xs, h⟩ => ⟨xs, h.later (ht.below (Nat.le_refl _) (by simp))⟩
theorem SSt.older {W W' w : World} {v : Value} {xs : List TV} {l : List PT} (h : SSt W' v xs l w) (hg : Grow W W') : SSt W v xs l w :=
  ⟨h.row, h.ts, fun g e => Nat.le_trans hg.size (h.vlo g e), fun x hx g e => ⟨Nat.le_trans hg.size (h.ilo x hx g e).1, (h.ilo x hx g e).2⟩, Grow.trans hg h.grow⟩
/-- the copies that transactions come to are no more than those that they have -/
theorem out_length {L : List PT} {zs : List Int} (hr : Rising (HasM (ov L)) zs) : (outL (ov L) zs).length ≤ copyN L := by
  unfold outL
  rw [List.length_map]
  refine Nat.le_trans (nodup_sub zs (allB L) hr.nodup (fun z hz => ?_)) (by rw [allB_length]; exact Nat.le_refl _)
  exact Classical.byContradiction fun hn => by have h1 := (hr.mem z).1 hz; unfold HasM at h1; rw [ov_copied L z hn] at h1; cases h1
theorem one_take {t : PT} {xs : List TV} (h : xs.map (·.t) = [t]) : ∃ x, xs = [x] ∧ x.t = t := by
  match xs, h with
  | [x], h => exact ⟨x, rfl, by simpa using h⟩
set_option maxRecDepth 100000 in
theorem CRow.at_ {w : World} {a : Option Addr} {n cap : Nat} {cs : List Cp} (h : CRow w (.slice a n cap) cs) {k : Nat} {c : Cp} (hk : cs[k]? = some c) : ∃ g, a = some ⟨g, 0, none⟩ ∧ g < w.heap.size ∧ w.rangeAt g (k * 257) (ccell c) ∧ w.cell? ⟨g, k * 257, none⟩ = some (.int .i64 c.1) ∧ c.2.length = 256 := by
  obtain ⟨g, cap', hv, hg⟩ := h.open_ (by have := (List.getElem?_eq_some_iff.1 hk).1; omega)
  have hb := h.blk (List.mem_of_getElem? hk)
  cases hv
  have h0 := h.range hk 0 (.int .i64 c.1) rfl
  exact ⟨g, rfl, hg, h.range hk, h0, hb⟩
theorem copies_g {w : World} {v : Value} {cs : List Cp} (h : CRow w v cs) (hl : cs.length ≤ 1000000) (b : Int) : ∀ w', Grow w w' → Calls Try.prog 23 #[v, .int .i64 b] w' fun e w'' => e = .returned (.bool (hasC cs b)) ∧ Grow w' w'' :=
  fun w' hg => (copies_ok (Row.see (h.grow hg)) hl b).mono fun e w'' ⟨h1, h2⟩ => ⟨h1, h2 ▸ Grow.refl _⟩
theorem revokes_g {w : World} {x : TV} (h : TAt w x) (b : Int) : ∀ w', Grow w w' → Calls Try.prog 24 #[.agg (tcell x).toArray, .int .i64 b] w' fun e w'' => e = .returned (.bool (x.t.rs.any (· == b))) ∧ Grow w' w'' :=
  fun w' hg => revokes_ok (Row.see (h.grow hg).rs) h.ok.rn b
theorem cell_l {w4 wr : World} {a : Addr} {u : Value} (h : w4.cell? a = some u) (hg : Grow w4 wr) : a.block < wr.heap.size ∧ wr.cell? a = some u := by
  have hl := World.block_lt_of_cell? _ _ h
  exact ⟨Nat.lt_of_lt_of_le hl hg.size, (hg.cell hl).trans h⟩
/-- what is looked for among copies -/
def AnyC (cs : List Cp) (k : Nat) (c : Cp) : Bool := (cs.take k).any fun d => decide (d = c)
theorem AnyC.zero (cs : List Cp) (c : Cp) : AnyC cs 0 c = false := rfl
theorem AnyC.succ {cs : List Cp} {k : Nat} {d : Cp} (h : cs[k]? = some d) (c : Cp) : AnyC cs (k + 1) c = (AnyC cs k c || decide (d = c)) := by
  unfold AnyC
  rw [List.take_add_one, h, List.any_append]
  simp
theorem AnyC.all {cs : List Cp} {c : Cp} (h : c ∈ cs) : AnyC cs cs.length c = true := by
  unfold AnyC
  rw [List.take_length]
  exact List.any_eq_true.2 ⟨c, h, by simp⟩
set_option maxRecDepth 100000 in
set_option maxHeartbeats 32000000 in
theorem last_walk {w : World} {v : Value} {l : List TSh} (h : TShIn w v l) (hl : l.length ≤ 9223372036854775807) (m s : Int) {t : TSh} {a1 a2 : Option Addr} {c1 c2 : Nat} (hr : RowsIn w (.slice a1 t.rows.length c1) t.rows) (hs : IntsIn w (.slice a2 t.rs.length c2) t.rs) (h1 : t.rows.length ≤ 9223372036854775807) (h2 : t.rs.length ≤ 9223372036854775807) :
    Calls Try.prog 6 #[v, .agg #[.int .i64 m, .slice a1 t.rows.length c1, .slice a2 t.rs.length c2, .int .i64 s]] w fun e w' => e = .returned (.bool true) ∧ Below w.heap.size w w' := by
  have HL := Lib.hid hl
  have h0 := h
  obtain ⟨a, cap, hv, _⟩ := h0
  obtain ⟨n, hn⟩ : ∃ n, n = l.length := ⟨_, rfl⟩
  rw [← hn] at hv hl
  have HN := Lib.hid hn
  subst hv
  have HONE := Lib.hid (show ∀ W, Grow w W → TShIn (W.alloc (.cells #[.int .i64 m, .slice a1 t.rows.length c1, .slice a2 t.rs.length c2, .int .i64 s] 60)) (.slice (some ⟨W.heap.size, 0, none⟩) 1 1) [t] from fun W hg => tsh_one m s (hr.grow hg) (hs.grow hg) h1 h2)
  obtain ⟨r1, hr1⟩ : ∃ r, r = t.rows.length := ⟨_, rfl⟩
  obtain ⟨r2, hr2⟩ : ∃ r, r = t.rs.length := ⟨_, rfl⟩
  rw [← hr1, ← hr2] at HONE ⊢
  have HT0 := Lib.hid (h.grow (Grow.alloc w (.cells #[.int .i64 m, .slice a1 r1 c1, .slice a2 r2 c2, .int .i64 s] 60)))
  have HP0 := Lib.hid (heap_alloc_last w (.cells #[.int .i64 m, .slice a1 r1 c1, .slice a2 r2 c2, .int .i64 s] 60))
  have HG0 := Lib.hid (Grow.alloc w (.cells #[.int .i64 m, .slice a1 r1 c1, .slice a2 r2 c2, .int .i64 s] 60))
  have HS0 := Lib.hid (show w.heap.size < (w.alloc (.cells #[.int .i64 m, .slice a1 r1 c1, .slice a2 r2 c2, .int .i64 s] 60)).heap.size by simp)
  clear hn h hr hs h1 h2 hr1 hr2
  go_enter Try.func6, Try.ntmps6
  go_wp2_with fail
  obtain ⟨W0, hW0⟩ : ∃ W0, W0 = w.alloc (.cells #[.int .i64 m, .slice a1 r1 c1, .slice a2 r2 c2, .int .i64 s] 60) := ⟨_, rfl⟩
  rw [← hW0] at HT0 HP0 HG0 HS0 ⊢
  clear hW0
  refine (awake_ok W0).mono ?_
  intro e w1 hpost
  obtain ⟨he, hg⟩ := hpost
  subst he
  have HT1 := Lib.hid (HT0.out.grow hg)
  have HP1 := Lib.hid ((hg.block w.heap.size HS0.out).trans HP0.out)
  have HG1 := Lib.hid (Grow.trans HG0.out hg)
  obtain ⟨PX, hPX⟩ : ∃ PX, PX = w.heap.size := ⟨_, rfl⟩
  rw [← hPX] at HP1 ⊢
  clear hg HT0 HP0 HG0 HS0 hPX
  go_wp2_with fail
  refine (many19_ok HT1.out HL.out).mono ?_
  intro e w2 hpost
  obtain ⟨b, he, hg, hb⟩ := hpost
  subst he
  have HT2 := Lib.hid (HT1.out.grow hg)
  have HP2 := Lib.hid ((hg.block PX (Array.getElem?_eq_some_iff.1 HP1.out).1).trans HP1.out)
  have HG2 := Lib.hid (Grow.trans HG1.out hg)
  clear HT1 HP1 HG1
  cases b with
  | true =>
    clear hg hb
    go_wp2_with fail
    go_ret
    exact ⟨rfl, HG2.out⟩
  | false =>
    by_cases h30 : 30 < n
    · have d0 : decide ((30 : Int) < (n : Int)) = true := by simp; omega
      clear hg hb
      go_wp2_with fail
      go_ret
      exact ⟨rfl, HG2.out⟩
    have d0 : decide ((30 : Int) < (n : Int)) = false := by simp; omega
    have HLN := Lib.hid (hb rfl).1
    have HSZ := Lib.hid (hb rfl).2
    have HON2 := Lib.hid (HONE.out w2 HG2.out)
    have HM3 := Lib.hid (many19_ok HON2.out (by simp))
    have q0 : w2.cell? ⟨PX, 0, none⟩ = some (.int .i64 m) := cell_at HP2.out 0
    have q1 : w2.cell? ⟨PX, 1, none⟩ = some (.slice a1 r1 c1) := cell_at HP2.out 1
    have q2 : w2.cell? ⟨PX, 2, none⟩ = some (.slice a2 r2 c2) := cell_at HP2.out 2
    have q3 : w2.cell? ⟨PX, 3, none⟩ = some (.int .i64 s) := cell_at HP2.out 3
    clear hg hb
    go_wp2_with fail
    refine HM3.out.mono ?_
    intro e w3 hpost
    obtain ⟨b, he, hg, hb⟩ := hpost
    subst he
    have hg23 := Grow.trans (Grow.alloc w2 (.cells #[.int .i64 m, .slice a1 r1 c1, .slice a2 r2 c2, .int .i64 s] 60)) hg
    have HT3 := Lib.hid (HT2.out.grow hg23)
    have HP3 := Lib.hid ((hg23.block PX (Array.getElem?_eq_some_iff.1 HP2.out).1).trans HP2.out)
    have HG3 := Lib.hid (Grow.trans HG2.out hg23)
    clear HT2 HP2 HG2 HM3 HON2 q0 q1 q2 q3 hg hg23
    cases b with
    | true =>
      clear hb
      go_wp2_with fail
      go_ret
      exact ⟨rfl, HG3.out⟩
    | false =>
      have HSZ1 := Lib.hid (Nat.le_trans (hb rfl).2 (show 1000 ≤ 100000 by omega))
      have HSZ1' := Lib.hid (hb rfl).2
      have HSZ3 := Lib.hid (Nat.le_trans HSZ.out (show 1000 ≤ 100000 by omega))
      have HPL := Lib.hid (Array.getElem?_eq_some_iff.1 HP3.out).1
      have HQ0 := Lib.hid (show PX < w3.heap.size ∧ w3.cell? ⟨PX, 0, none⟩ = some (.int .i64 m) from ⟨HPL.out, cell_at HP3.out 0⟩)
      have HQ1 := Lib.hid (show PX < w3.heap.size ∧ w3.cell? ⟨PX, 1, none⟩ = some (.slice a1 r1 c1) from ⟨HPL.out, cell_at HP3.out 1⟩)
      have HQ2 := Lib.hid (show PX < w3.heap.size ∧ w3.cell? ⟨PX, 2, none⟩ = some (.slice a2 r2 c2) from ⟨HPL.out, cell_at HP3.out 2⟩)
      have HQ3 := Lib.hid (show PX < w3.heap.size ∧ w3.cell? ⟨PX, 3, none⟩ = some (.int .i64 s) from ⟨HPL.out, cell_at HP3.out 3⟩)
      clear hb d0
      go_upto_region 5 with (fail)
      refine wp_region_facts (by kernel_rfl) [[], [(0, some 32)], [], [(2, some 34)], [(1, some 33), (3, some 35)], [(0, some 32), (1, some 33), (4, some 36)], [(0, some 32), (1, some 33), (2, some 34), (3, some 35), (4, some 36), (5, some 5)]] [(0, some 32), (1, some 33), (2, some 34), (3, some 35), (4, some 36), (5, some 5), (6, some 6)] (by kernel_rfl) (by kernel_rfl) (by kernel_rfl) (Touch []) (Touch.refl []) (fun _ _ _ h h' => h.trans h' (fun i hi => .inl hi)) [Is (Value.slice a n cap), SStA w3 (shortP l), Is (Value.agg #[.int .i64 m, .slice a1 r1 c1, .slice a2 r2 c2, .int .i64 s]), TShInA [t], SStA w3 (shortP [t]), SStA w3 (shortP l), SStA w3 (shortP [t])] rfl ⟨is_stab _ _, sst_stab _ _, is_stab _ _, tshin_stab _, sst_stab _ _, sst_stab _ _, sst_stab _ _, trivial⟩ ⟨?o0, ?o1, ?o2, ?o3, ?o4, ?o5, ?o6, trivial⟩ ?_
      case o0 =>
        intro vals wq hRq hpq
        simp only [List.getD_cons_zero, List.getD_cons_succ, canonP]
        simp only [Oper.gives]
        go_simp
        exact ⟨is_mk _ _, (Touch.refl []) _⟩
      case o1 =>
        intro vals wq hRq hpq
        simp only [factsP, List.getD_cons_zero, List.getD_cons_succ] at hpq
        have f0 := hpq.1
        replace hpq := hpq.2
        clear hpq
        replace f0 : vals 0 = _ := f0
        simp only [List.getD_cons_zero, List.getD_cons_succ, canonP, f0]
        clear f0
        simp only [Oper.gives]
        go_simp
        exact (short_ok (HT3.out.grow (((Touch.drew [] w3).trans hRq (by simp)).below (Nat.le_refl _) (by simp))) HLN.out HSZ3.out).mono fun e w' ⟨v, xs, he, hs⟩ => ⟨_, he, ⟨xs, hs.older (((Touch.drew [] w3).trans hRq (by simp)).below (Nat.le_refl _) (by simp))⟩, Touch.of_below hs.grow⟩
      case o2 =>
        intro vals wq hRq hpq
        simp only [List.getD_cons_zero, List.getD_cons_succ, canonP]
        have q0 : wq.cell? ⟨PX, 0, none⟩ = some (.int .i64 m) := (Touch.cell ((Touch.drew [] w3).trans hRq (by simp)) (a := ⟨PX, 0, none⟩) HQ0.out.1 (by simp)).trans HQ0.out.2
        have q1 : wq.cell? ⟨PX, 1, none⟩ = some (.slice a1 r1 c1) := (Touch.cell ((Touch.drew [] w3).trans hRq (by simp)) (a := ⟨PX, 1, none⟩) HQ1.out.1 (by simp)).trans HQ1.out.2
        have q2 : wq.cell? ⟨PX, 2, none⟩ = some (.slice a2 r2 c2) := (Touch.cell ((Touch.drew [] w3).trans hRq (by simp)) (a := ⟨PX, 2, none⟩) HQ2.out.1 (by simp)).trans HQ2.out.2
        have q3 : wq.cell? ⟨PX, 3, none⟩ = some (.int .i64 s) := (Touch.cell ((Touch.drew [] w3).trans hRq (by simp)) (a := ⟨PX, 3, none⟩) HQ3.out.1 (by simp)).trans HQ3.out.2
        simp only [Oper.gives]
        go_simp
        exact ⟨is_mk _ _, Touch.refl _ _⟩
      case o3 =>
        intro vals wq hRq hpq
        simp only [factsP, List.getD_cons_zero, List.getD_cons_succ] at hpq
        have f2 := hpq.1
        replace hpq := hpq.2
        clear hpq
        replace f2 : vals 2 = _ := f2
        simp only [List.getD_cons_zero, List.getD_cons_succ, canonP, f2]
        clear f2
        rw [if_pos (by rfl)]
        exact gives_buildSlice 22 1 _ rfl (v := .slice (some ⟨wq.heap.size, 0, none⟩) 1 1) (w' := wq.alloc (.cells #[.int .i64 m, .slice a1 r1 c1, .slice a2 r2 c2, .int .i64 s] 60)) (by simp only [List.map_toArray, List.map_cons, List.map_nil]; exact mk_tsh m s a1 a2 r1 c1 r2 c2 wq) ⟨HONE.out wq (Grow.trans HG3.out (((Touch.drew [] w3).trans hRq (by simp)).below (Nat.le_refl _) (by simp))), Touch.alloc _ _ _⟩
      case o4 =>
        intro vals wq hRq hpq
        simp only [factsP, List.getD_cons_zero, List.getD_cons_succ] at hpq
        have f1 := hpq.1
        replace hpq := hpq.2
        have f3 := hpq.1
        replace hpq := hpq.2
        clear hpq
        simp only [List.getD_cons_zero, List.getD_cons_succ, canonP]
        have ht3 : TShIn wq (vals 3) [t] := f3
        simp only [Oper.gives]
        go_simp
        exact (short_ok ht3 (by simp) HSZ1.out).mono fun e w' ⟨v, xs, he, hs⟩ => ⟨_, he, ⟨xs, hs.older (((Touch.drew [] w3).trans hRq (by simp)).below (Nat.le_refl _) (by simp))⟩, Touch.of_below hs.grow⟩
      case o5 =>
        intro vals wq hRq hpq
        simp only [factsP, List.getD_cons_zero, List.getD_cons_succ] at hpq
        have f0 := hpq.1
        replace hpq := hpq.2
        have f1 := hpq.1
        replace hpq := hpq.2
        have f4 := hpq.1
        replace hpq := hpq.2
        clear hpq
        replace f0 : vals 0 = _ := f0
        simp only [List.getD_cons_zero, List.getD_cons_succ, canonP, f0]
        clear f0
        simp only [Oper.gives]
        go_simp
        first | exact Touch.refl _ _ | exact ⟨f1, Touch.refl _ _⟩
      case o6 =>
        intro vals wq hRq hpq
        simp only [factsP, List.getD_cons_zero, List.getD_cons_succ] at hpq
        have f0 := hpq.1
        replace hpq := hpq.2
        have f1 := hpq.1
        replace hpq := hpq.2
        have f2 := hpq.1
        replace hpq := hpq.2
        have f3 := hpq.1
        replace hpq := hpq.2
        have f4 := hpq.1
        replace hpq := hpq.2
        have f5 := hpq.1
        replace hpq := hpq.2
        clear hpq
        replace f0 : vals 0 = _ := f0
        replace f2 : vals 2 = _ := f2
        simp only [List.getD_cons_zero, List.getD_cons_succ, canonP, f0, f2]
        clear f0 f2
        simp only [Oper.gives]
        go_simp
        first | exact Touch.refl _ _ | exact ⟨f4, Touch.refl _ _⟩
      intro vals W4 hRW4 hfW4
      simp only [AllFacts] at hfW4
      have g0 := hfW4.1
      replace hfW4 := hfW4.2
      have g1 := hfW4.1
      replace hfW4 := hfW4.2
      have g2 := hfW4.1
      replace hfW4 := hfW4.2
      have g3 := hfW4.1
      replace hfW4 := hfW4.2
      have g4 := hfW4.1
      replace hfW4 := hfW4.2
      have g5 := hfW4.1
      replace hfW4 := hfW4.2
      have g6 := hfW4.1
      replace hfW4 := hfW4.2
      clear hfW4
      replace g0 : vals 0 = _ := g0
      replace g2 : vals 2 = _ := g2
      simp only [canonP, Act.put, List.setIfInBounds_toArray, List.set_cons_succ, List.set_cons_zero, g0, g2]
      clear g0 g1 g2 g3 g4
      have hs5 := g5
      have hs6 := g6
      clear g5 g6
      generalize vals 5 = v5 at *
      generalize vals 6 = v6 at *
      have HG4 := Lib.hid (Grow.trans HG3.out (((Touch.drew [] w3).trans hRW4 (by simp)).below (Nat.le_refl _) (by simp)))
      clear hRW4 HPL HQ0 HQ1 HQ2 HQ3 HP3 HT3 HONE
      obtain ⟨xs, hs5⟩ := hs5
      obtain ⟨ys, hs6⟩ := hs6
      obtain ⟨L, hLL⟩ : ∃ L, L = shortP l := ⟨_, rfl⟩
      rw [← hLL] at hs5
      obtain ⟨T1, hT1⟩ : ∃ T1, shortP [t] = [T1] := ⟨_, rfl⟩
      rw [hT1] at hs6
      obtain ⟨x1, rfl, hx1⟩ := one_take hs6.ts
      subst hx1
      obtain ⟨a5, n5, k5, rfl⟩ := rowSlice hs5.row.row
      obtain ⟨a6, n6, k6, rfl⟩ := rowSlice hs6.row.row
      have HX5 := Lib.hid hs5.row
      have HX6 := Lib.hid hs6.row
      have HTS := Lib.hid hs5.ts
      have HLX := Lib.hid (show xs.length ≤ 60 by rw [hs5.len, hLL, shortP_length]; exact HLN.out)
      have HCN := Lib.hid (show copyN L ≤ 1000 by rw [hLL]; exact Nat.le_trans (copyN_short l) HSZ.out)
      have HCN1 := Lib.hid (show copyN [x1.t] ≤ 1000 by rw [← hT1]; exact Nat.le_trans (copyN_short [t]) HSZ1'.out)
      have HOW := Lib.hid (own_ov L (fun t ht => by rw [← hs5.ts] at ht; obtain ⟨x, hx, rfl⟩ := List.mem_map.1 ht; exact (hs5.row.at_ x hx).ok))
      have HOW1 := Lib.hid (own_ov [x1.t] (fun t ht => by rw [List.mem_singleton.1 ht]; exact (hs6.row.at_ x1 (by simp)).ok))
      have HOWB := Lib.hid (own_ov (L ++ [x1.t]) (fun t ht => by
        rcases List.mem_append.1 ht with h | h
        · rw [← hs5.ts] at h; obtain ⟨x, hx, rfl⟩ := List.mem_map.1 h; exact (hs5.row.at_ x hx).ok
        · rw [List.mem_singleton.1 h]; exact (hs6.row.at_ x1 (by simp)).ok))
      have HCNB := Lib.hid (show copyN (L ++ [x1.t]) ≤ 2000 by
        have h1 := HCN.out
        have h2 := HCN1.out
        unfold copyN at h1 h2 ⊢
        rw [List.map_append, List.sum_append]
        omega)
      have HOV5 := Lib.hid (overlay_ok HX5.out (by have := HLX.out; omega) (by rw [HTS.out]; exact Nat.le_trans HCN.out (by omega)))
      rw [HTS.out] at HOV5
      clear hs5 hs6 hLL hT1 HSZ HSZ1 HSZ1' HSZ3
      go_wp2_with fail
      refine HOV5.out.mono ?_
      intro e w5 hpost
      obtain ⟨v7, z7, he, hr, hc, hg, _⟩ := hpost
      subst he
      obtain ⟨a7, n7, k7, rfl⟩ := rowSlice hc
      have HR7 := Lib.hid hr
      have HC7 := Lib.hid hc
      have HX5b := Lib.hid (HX5.out.grow hg)
      have HX6b := Lib.hid (HX6.out.grow hg)
      have HG5 := Lib.hid (Grow.trans HG4.out hg)
      have HOV6 := Lib.hid (overlay_ok HX6b.out (by simp) (by exact Nat.le_trans HCN1.out (by omega)))
      rw [List.map_cons, List.map_nil] at HOV6
      clear hr hc hg HOV5 HX5 HX6 HG4
      go_wp2_with fail
      refine HOV6.out.mono ?_
      intro e w6 hpost
      obtain ⟨v8, z8, he, hr, hc, hg, _⟩ := hpost
      subst he
      obtain ⟨a8, n8, k8, rfl⟩ := rowSlice hc
      have HR8 := Lib.hid hr
      have HC8 := Lib.hid hc
      have HC7b := Lib.hid (HC7.out.grow hg)
      have HX5 := Lib.hid (HX5b.out.grow hg)
      have HX6 := Lib.hid (HX6b.out.grow hg)
      have HG6 := Lib.hid (Grow.trans HG5.out hg)
      clear hr hc hg HOV6 HX5b HX6b HC7 HG5
      obtain ⟨i1, hi1, hy0, hy1, hy2⟩ := info_parts infoTr3
      have HI1 := Lib.hid hi1
      have HSR5 := Lib.hid (Row.src HX5.out.row (tcells_one HX5.out))
      have HSR6 := Lib.hid (Row.src HX6.out.row (tcells_one HX6.out))
      have HIN := Lib.hid (show ∀ x ∈ xs ++ [x1], ∀ g, x.vc.ownBlock = some g ∨ x.vr.ownBlock = some g → g < w6.heap.size from fun x hx g hg => by
        have hat : TAt w6 x := by
          rcases List.mem_append.1 hx with h | h
          · exact HX5.out.at_ x h
          · exact HX6.out.at_ x h
        rcases hg with e | e
        · exact Row.lt hat.cs e
        · exact Row.lt hat.rs e)
      clear hi1
      go_upto_region 9 with (at_builtin; refine wpList_append_rows rfl (.tmp 41) (.tmp 42) 25 rfl 55 i1 (.agg #[.int .u32 0, .slice none 0 0, .slice none 0 0]) 3 56 Try.underlying25 HI1.out hy0 hy1 hy2 rfl (by omega) (.slice none 0 0) (.slice a5 n5 k5) [] (xs.map tcell) rfl (rowNil _ _ _) rfl HSR5.out (by rw [List.length_map, List.length_nil]; have := HLX.out; omega) (by omega) ?_; intro v9 w7 happ htch)
      have hg7 : Grow w6 w7 := htch.below (Nat.le_refl _) (fun j hj => by have := ownL_mem.1 hj; cases this)
      have hlo7 : ∀ g, v9.ownBlock = some g → w6.heap.size ≤ g := fun g e => by
        rcases happ.2 with h1 | ⟨g', h1, h2⟩
        · rw [h1] at e; cases e
        · rw [h1] at e; cases e; exact h2
      have ht9 : TRow w7 v9 ([] ++ xs) := trow_app (xs := []) ⟨rowNil _ _ _, fun x hx => by simp at hx⟩ HX5.out happ htch (fun x hx g hg e => by cases e)
      rw [List.nil_append] at ht9
      obtain ⟨a9, n9, k9, rfl⟩ := rowSlice ht9.row
      have HT9 := Lib.hid ht9
      have HG7 := Lib.hid hg7
      have HLO7 := Lib.hid hlo7
      clear happ htch hg7 hlo7 ht9
      go_upto_region 10 with (at_builtin; refine wpList_append_rows rfl (.tmp 44) (.tmp 45) 25 rfl 55 i1 (.agg #[.int .u32 0, .slice none 0 0, .slice none 0 0]) 3 56 Try.underlying25 HI1.out hy0 hy1 hy2 rfl (by omega) (.slice a9 n9 k9) (.slice a6 n6 k6) (xs.map tcell) ([x1].map tcell) rfl HT9.out.row rfl (HSR6.out.grow HG7.out) (by rw [List.length_map, List.length_map]; have := HLX.out; simp; omega) (by omega) ?_; intro v9b w8 happ htch)
      have hg8 : Grow w6 w8 := Below.trans HG7.out (htch.below HG7.out.size (fun j hj => HLO7.out j (ownL_mem.1 hj)))
      have htb : TRow w8 v9b (xs ++ [x1]) := trow_app HT9.out (HX6.out.grow HG7.out) happ htch (fun x hx g hg e => by
        have h1 := HLO7.out g e
        have h3 := HIN.out x hx g hg
        omega)
      obtain ⟨ab, nb, kb, rfl⟩ := rowSlice htb.row
      have HTB := Lib.hid htb
      have HC7 := Lib.hid (HC7b.out.grow hg8)
      have HC8b := Lib.hid (HC8.out.grow hg8)
      have HX6b := Lib.hid (HX6.out.grow hg8)
      have HG8 := Lib.hid (Grow.trans HG6.out hg8)
      have HOVB := Lib.hid (overlay_ok HTB.out (by rw [List.length_append]; have := HLX.out; simp; omega) (by rw [List.map_append, HTS.out]; exact Nat.le_trans HCNB.out (by omega)))
      rw [List.map_append, HTS.out, List.map_cons, List.map_nil] at HOVB
      clear happ htch hg8 htb HT9 HG7 HLO7 HSR5 HSR6 HIN HI1 hy0 hy1 hy2 HC7b HC8 HX5 HX6 HG6
      go_wp2_with fail
      refine HOVB.out.mono ?_
      intro e w9 hpost
      obtain ⟨v10, z10, he, hr, hc, hg, _⟩ := hpost
      subst he
      obtain ⟨a10, n10, k10, rfl⟩ := rowSlice hc
      have HR10 := Lib.hid hr
      have HC10 := Lib.hid hc
      have HC7c := Lib.hid (HC7.out.grow hg)
      have HC8c := Lib.hid (HC8b.out.grow hg)
      have HX6 := Lib.hid (HX6b.out.grow hg)
      have HG9 := Lib.hid (Grow.trans HG8.out hg)
      clear hr hc hg HOVB HTB HC7 HC8b HX6b HG8
      -- the three results, as letters
      obtain ⟨B, hB⟩ : ∃ B, B = outL (ov L) z7 := ⟨_, rfl⟩
      obtain ⟨A, hA⟩ : ∃ A, A = outL (ov [x1.t]) z8 := ⟨_, rfl⟩
      obtain ⟨F, hF⟩ : ∃ F, F = outL (ov (L ++ [x1.t])) z10 := ⟨_, rfl⟩
      have HBL := Lib.hid (show B.length ≤ 1000 by rw [hB]; exact Nat.le_trans (out_length HR7.out) HCN.out)
      have HAL := Lib.hid (show A.length ≤ 1000 by rw [hA]; exact Nat.le_trans (out_length HR8.out) HCN1.out)
      have HFL := Lib.hid (show F.length ≤ 2000 by rw [hF]; exact Nat.le_trans (out_length HR10.out) HCNB.out)
      have HAF := Lib.hid (show ∀ c ∈ F, (nmB x1.t c.1 = true → c ∈ A) ∧ (nmB x1.t c.1 = false → c ∈ B) from fun c hc => by
        rw [hF] at hc
        have h1 := (out_mem HOWB.out HR10.out).1 hc
        refine ⟨fun hn => ?_, fun hn => ?_⟩
        · rw [hA]; exact (out_mem HOW1.out HR8.out).2 ((last_named hn).symm.trans h1)
        · rw [hB]; exact (out_mem HOW.out HR7.out).2 ((last_other hn).symm.trans h1))
      have HBF := Lib.hid (show ∀ c ∈ B, nmB x1.t c.1 = true ∨ hasC F c.1 = true from fun c hc => by
        rw [hB] at hc
        have h1 := (out_mem HOW.out HR7.out).1 hc
        cases hn : nmB x1.t c.1 with
        | true => exact .inl rfl
        | false =>
          refine .inr ?_
          rw [hF, out_has HOWB.out HR10.out]
          unfold HasM
          rw [last_other hn, h1]
          rfl)
      have HAF2 := Lib.hid (show ∀ c ∈ A, hasC F c.1 = true from fun c hc => by
        rw [hA] at hc
        have h1 := (out_mem HOW1.out HR8.out).1 hc
        have hn : nmB x1.t c.1 = true := alone_named (by unfold HasM; rw [h1]; rfl)
        rw [hF, out_has HOWB.out HR10.out]
        unfold HasM
        rw [last_named hn, h1]
        rfl)
      rw [← hB] at HC7c
      rw [← hA] at HC8c
      rw [← hF] at HC10
      obtain ⟨a7', k7', hv⟩ := CRow.len HC7c.out
      cases hv
      obtain ⟨a8', k8', hv⟩ := CRow.len HC8c.out
      cases hv
      obtain ⟨a10', k10', hv⟩ := CRow.len HC10.out
      cases hv
      obtain ⟨n7, hn7⟩ : ∃ n, n = B.length := ⟨_, rfl⟩
      obtain ⟨n8, hn8⟩ : ∃ n, n = A.length := ⟨_, rfl⟩
      obtain ⟨n10, hn10⟩ : ∃ n, n = F.length := ⟨_, rfl⟩
      have HN7 := Lib.hid hn7
      have HN8 := Lib.hid hn8
      have HN10 := Lib.hid hn10
      rw [← hn7] at HC7c HBL ⊢
      rw [← hn8] at HC8c HAL ⊢
      rw [← hn10] at HC10 HFL ⊢
      have hb7 : n7 ≤ 1000 := HBL.out
      have hb8 : n8 ≤ 1000 := HAL.out
      have hb10 : n10 ≤ 2000 := HFL.out
      obtain ⟨g6, c6, ac, nc, cc, ar, nr, cr, hv, q0, q1, q2, hvc, hnc, hvr, hnr, _⟩ := HX6.out.elem (k := 0) (x := x1) rfl
      cases hv
      rw [Nat.zero_mul] at q0 q1 q2
      have HE0 := Lib.hid q0
      have HE1 := Lib.hid (show w9.cell? ⟨g6, 1, none⟩ = some (.slice ac nc cc) by rw [← hvc, ← q1])
      have HE2 := Lib.hid (show w9.cell? ⟨g6, 2, none⟩ = some (.slice ar nr cr) by rw [← hvr, ← q2])
      have HAT := Lib.hid (HX6.out.at_ x1 (by simp))
      have HVC := Lib.hid hvc
      have HVR := Lib.hid hvr
      have HCC := Lib.hid (show ∀ b w', Grow w9 w' → Calls Try.prog 23 #[.slice ac nc cc, .int .i64 b] w' fun e w'' => e = .returned (.bool (hasC x1.t.cs b)) ∧ Grow w' w'' from fun b => by
        have h1 := HAT.out.cs
        rw [HVC.out] at h1
        refine copies_g h1 ?_ b
        have := HCN1.out
        unfold copyN at this
        simp at this
        omega)
      have HRR := Lib.hid (show ∀ b w', Grow w9 w' → Calls Try.prog 24 #[.agg #[.int .u32 (x1.t.seq : Int), .slice ac nc cc, .slice ar nr cr], .int .i64 b] w' fun e w'' => e = .returned (.bool (x1.t.rs.any (· == b))) ∧ Grow w' w'' from fun b => by
        have := revokes_g HAT.out b
        unfold tcell at this
        rw [HVC.out, HVR.out] at this
        exact this)
      have HCF := Lib.hid (show ∀ b w', Grow w9 w' → Calls Try.prog 23 #[.slice a10 n10 k10, .int .i64 b] w' fun e w'' => e = .returned (.bool (hasC F b)) ∧ Grow w' w'' from copies_g HC10.out (by rw [← HN10.out]; omega))
      obtain ⟨sq, hsq⟩ : ∃ sq, sq = x1.t.seq := ⟨_, rfl⟩
      rw [← hsq] at HE0 HRR
      clear hB hA hF hn7 hn8 hn10 q0 q1 q2 hvc hnc hvr hnr hsq HR7 HR8 HR10 HBL HAL HFL
      go_wp2_with fail
      go_loopw [11, 12] (fun t11 t12 wr => ∃ i : Nat, t12 = .int .i64 (i : Int) ∧ t11 = .int .i64 (i : Int) ∧ i ≤ n10 ∧ Hid (Grow w9 wr)) (fun _ t12 _ => n10 - (intOf t12).toNat)
      case atStart => exact ⟨0, by go_num, by go_num, by omega, Lib.hid (Grow.refl _)⟩
      case round =>
        obtain ⟨i, rfl, rfl, hin, HW⟩ := hrel
        by_cases hi : i < n10
        · obtain ⟨c, hc⟩ : ∃ c, F[i]? = some c := ⟨F[i]'(by rw [← HN10.out]; exact hi), by simp⟩
          obtain ⟨ga, rfl, hga, hrg, hcell, hcl⟩ := (HC10.out.grow HW.out).at_ hc
          have HB := Lib.hid (show ga < wr.heap.size ∧ wr.cell? ⟨ga, i * 257, none⟩ = some (.int .i64 c.1) from ⟨hga, hcell⟩)
          have HCL := Lib.hid hcl
          have HCI := Lib.hid (HAF.out c (List.mem_of_getElem? hc))
          have HFI := Lib.hid hc
          have HS := Lib.hid (cell_l HE0.out HW.out)
          have HC1 := Lib.hid (cell_l HE1.out HW.out)
          have HR2 := Lib.hid (cell_l HE2.out HW.out)
          have HCb := Lib.hid (fun w' (hg : Grow wr w') => HCC.out c.1 w' (Grow.trans HW.out hg))
          have HRb := Lib.hid (fun w' (hg : Grow wr w') => HRR.out c.1 w' (Grow.trans HW.out hg))
          obtain ⟨CB, hCB⟩ : ∃ CB, CB = hasC x1.t.cs c.1 := ⟨_, rfl⟩
          obtain ⟨RB, hRB⟩ : ∃ RB, RB = x1.t.rs.any (· == c.1) := ⟨_, rfl⟩
          have HNM := Lib.hid (show nmB x1.t c.1 = (CB || RB) by rw [hCB, hRB]; rfl)
          rw [← hCB] at HCb
          rw [← hRB] at HRb
          clear hc hga hrg hcell hcl hCB hRB
          go_upto_region 16 with (fail)
          refine last_reg16 i n10 k6 g6 ga k10 sq nc cc nr cr ac ar c.1 wr HS HC1 HR2 hi (by omega) HB CB RB HCb HRb _ _ _ _ _ _ _ _ _ _ _ _ _ _ _ _ _ _ _ _ _ _ _ _ _ _ _ _ _ _ _ _ _ _ _ _ _ _ _ _ _ _ _ _ _ _ _ _ _ _ _ _ _ _ _ _ _ _ _ _ _ _ _ _ _ _ _ _ _ _ _ _ _ _ _ _ _ _ _ _ _ _ _ _ _ _ _ _ _ _ _ _ _ _ _ _ _ _ _ _ _ _ _ _ _ _ _ _ _ _ _ _ _ _ _ _ _ _ _ _ _ _ _ _ _ _ _ _ _ _ _ _ _ _ _ _ _ _ _ _ _ _ _ _ _ _ _ _ _ _ _ _ _ _ _ (Lib.hid ?hlastreg163)
          intro u56 u57 u58 u59 u60 u61 u62 u63 u64 u65 u66 u67 u68 u69 u70 u71 u72 u73 u74 u75 W2 hRW2
          have HG2 := Lib.hid (Grow.trans HW.out (hRW2.below (Nat.le_refl _) (by simp)))
          clear hRW2 HB HS HC1 HR2 HCb HRb HW
          cases hb : (CB || RB) with
          | true =>
            have HMB := Lib.hid (HCI.out.1 (by rw [HNM.out]; exact hb))
            clear hb
            go_wp2_with fail
            go_loopw [14, 15] (fun t14 t15 wr2 => ∃ k : Nat, t15 = .int .i64 (k : Int) ∧ k ≤ n8 ∧ (∃ fd, t14 = .bool fd ∧ Hid (fd = AnyC A k c)) ∧ Hid (Grow w9 wr2)) (fun _ t15 _ => n8 - (intOf t15).toNat)
            case atStart => exact ⟨0, by go_num, by omega, ⟨false, rfl, Lib.hid rfl⟩, HG2⟩
            case round =>
              obtain ⟨k, rfl, hk, ⟨fd, rfl, HFD⟩, HW3⟩ := hrel
              by_cases hkl : k < n8
              · obtain ⟨d, hd⟩ : ∃ d, A[k]? = some d := ⟨A[k]'(by rw [← HN8.out]; exact hkl), by simp⟩
                obtain ⟨gf, rfl, hgf, hrf, hcf, hdl⟩ := (HC8c.out.grow HW3.out).at_ hd
                obtain ⟨ga', e', hga, hra, hca⟩ := (HC10.out.grow HW3.out).at_ HFI.out
                cases e'
                have HFK := Lib.hid (And.intro hgf hrf)
                have HAI := Lib.hid (And.intro hga hra)
                have HDL := Lib.hid hdl
                have HF2 := Lib.hid (show (fd || decide (d = c)) = AnyC A (k + 1) c by rw [AnyC.succ hd, ← HFD.out])
                clear hd hgf hrf hcf hga hra hca hdl
                go_upto_region 22 with (fail)
                refine last_reg22 i k n10 k10 ga gf n8 k8 c d wr hi (by omega) hkl (by omega) HDL HCL HFK HAI _ _ (Lib.hid rfl) (Lib.hid rfl) fd (decide (d = c)) (Lib.hid (fun w => eqlC d c HDL.out HCL.out w)) _ _ _ _ _ _ _ _ _ _ _ _ _ _ _ _ _ _ _ _ _ _ _ _ _ _ _ _ _ _ _ _ _ _ _ _ _ _ _ _ _ _ _ _ _ _ _ _ _ _ _ _ _ _ _ _ _ _ _ _ _ _ _ _ _ _ _ _ _ _ _ _ _ _ _ _ _ _ _ _ _ _ _ _ _ _ _ _ _ _ _ _ _ _ _ _ _ _ _ _ _ _ _ _ _ _ _ _ _ _ _ _ _ _ _ _ _ _ _ _ _ _ _ _ _ _ _ _ _ _ _ _ _ _ _ _ _ _ _ _ _ _ _ _ _ _ _ _ _ _ _ _ _ (Lib.hid ?hlastreg221)
                intro u84 u85 u86 u87 u88 u89 u90 u91 u92 u93 u94 W4 hRW4
                have HG4 := Lib.hid (Grow.trans HW3.out (hRW4.below (Nat.le_refl _) (by simp)))
                clear hRW4
                go_wp2
                go_roundw
                case rel => exact ⟨k + 1, by go_num, by omega, ⟨_, rfl, HF2⟩, HG4⟩
                case measure => simp [intOf]; omega
              · obtain rfl : k = n8 := by omega
                have hfd : fd = true := by rw [HFD.out, HN8.out]; exact AnyC.all HMB.out
                subst hfd
                go_wp2_with fail
                go_roundw
                case rel => exact ⟨i + 1, by go_num, by go_num, by omega, HW3⟩
                case measure => simp [intOf]; omega
          | false =>
            have HMB := Lib.hid (HCI.out.2 (by rw [HNM.out]; exact hb))
            clear hb
            go_wp2_with fail
            go_loopw [14, 15] (fun t14 t15 wr2 => ∃ k : Nat, t15 = .int .i64 (k : Int) ∧ k ≤ n7 ∧ (∃ fd, t14 = .bool fd ∧ Hid (fd = AnyC B k c)) ∧ Hid (Grow w9 wr2)) (fun _ t15 _ => n7 - (intOf t15).toNat)
            case atStart => exact ⟨0, by go_num, by omega, ⟨false, rfl, Lib.hid rfl⟩, HG2⟩
            case round =>
              obtain ⟨k, rfl, hk, ⟨fd, rfl, HFD⟩, HW3⟩ := hrel
              by_cases hkl : k < n7
              · obtain ⟨d, hd⟩ : ∃ d, B[k]? = some d := ⟨B[k]'(by rw [← HN7.out]; exact hkl), by simp⟩
                obtain ⟨gf, rfl, hgf, hrf, hcf, hdl⟩ := (HC7c.out.grow HW3.out).at_ hd
                obtain ⟨ga', e', hga, hra, hca⟩ := (HC10.out.grow HW3.out).at_ HFI.out
                cases e'
                have HFK := Lib.hid (And.intro hgf hrf)
                have HAI := Lib.hid (And.intro hga hra)
                have HDL := Lib.hid hdl
                have HF2 := Lib.hid (show (fd || decide (d = c)) = AnyC B (k + 1) c by rw [AnyC.succ hd, ← HFD.out])
                clear hd hgf hrf hcf hga hra hca hdl
                go_upto_region 22 with (fail)
                refine last_reg22 i k n10 k10 ga gf n7 k7 c d wr hi (by omega) hkl (by omega) HDL HCL HFK HAI _ _ (Lib.hid rfl) (Lib.hid rfl) fd (decide (d = c)) (Lib.hid (fun w => eqlC d c HDL.out HCL.out w)) _ _ _ _ _ _ _ _ _ _ _ _ _ _ _ _ _ _ _ _ _ _ _ _ _ _ _ _ _ _ _ _ _ _ _ _ _ _ _ _ _ _ _ _ _ _ _ _ _ _ _ _ _ _ _ _ _ _ _ _ _ _ _ _ _ _ _ _ _ _ _ _ _ _ _ _ _ _ _ _ _ _ _ _ _ _ _ _ _ _ _ _ _ _ _ _ _ _ _ _ _ _ _ _ _ _ _ _ _ _ _ _ _ _ _ _ _ _ _ _ _ _ _ _ _ _ _ _ _ _ _ _ _ _ _ _ _ _ _ _ _ _ _ _ _ _ _ _ _ _ _ _ _ (Lib.hid ?hlastreg222)
                intro u84 u85 u86 u87 u88 u89 u90 u91 u92 u93 u94 W4 hRW4
                have HG4 := Lib.hid (Grow.trans HW3.out (hRW4.below (Nat.le_refl _) (by simp)))
                clear hRW4
                go_wp2
                go_roundw
                case rel => exact ⟨k + 1, by go_num, by omega, ⟨_, rfl, HF2⟩, HG4⟩
                case measure => simp [intOf]; omega
              · obtain rfl : k = n7 := by omega
                have hfd : fd = true := by rw [HFD.out, HN7.out]; exact AnyC.all HMB.out
                subst hfd
                go_wp2_with fail
                go_roundw
                case rel => exact ⟨i + 1, by go_num, by go_num, by omega, HW3⟩
                case measure => simp [intOf]; omega
        · obtain rfl : i = n10 := by omega
          have HWa := Lib.hid HW.out
          clear HW
          go_wp2_with fail
          go_loopw [16] (fun t16 wr => ∃ j : Nat, t16 = .int .i64 (j : Int) ∧ j ≤ n7 ∧ Hid (Grow w9 wr)) (fun t16 _ => n7 - (intOf t16).toNat)
          case atStart => exact ⟨0, by go_num, by omega, HWa⟩
          case round =>
            obtain ⟨j, rfl, hj, HW⟩ := hrel
            by_cases hjl : j < n7
            · obtain ⟨c, hc⟩ : ∃ c, B[j]? = some c := ⟨B[j]'(by rw [← HN7.out]; exact hjl), by simp⟩
              obtain ⟨gb, rfl, hgb, hrb, hcell, hlb⟩ := (HC7c.out.grow HW.out).at_ hc
              have HB := Lib.hid (show gb < wr.heap.size ∧ wr.cell? ⟨gb, j * 257, none⟩ = some (.int .i64 c.1) from ⟨hgb, hcell⟩)
              have HBc := Lib.hid (HBF.out c (List.mem_of_getElem? hc))
              have HS := Lib.hid (cell_l HE0.out HW.out)
              have HC1 := Lib.hid (cell_l HE1.out HW.out)
              have HR2 := Lib.hid (cell_l HE2.out HW.out)
              have HCb := Lib.hid (fun w' (hg : Grow wr w') => HCC.out c.1 w' (Grow.trans HW.out hg))
              have HRb := Lib.hid (fun w' (hg : Grow wr w') => HRR.out c.1 w' (Grow.trans HW.out hg))
              have HAb := Lib.hid (fun w' (hg : Grow wr w') => HCF.out c.1 w' (Grow.trans HW.out hg))
              obtain ⟨CB, hCB⟩ : ∃ CB, CB = hasC x1.t.cs c.1 := ⟨_, rfl⟩
              obtain ⟨RB, hRB⟩ : ∃ RB, RB = x1.t.rs.any (· == c.1) := ⟨_, rfl⟩
              obtain ⟨CA, hCA⟩ : ∃ CA, CA = hasC F c.1 := ⟨_, rfl⟩
              have HH := Lib.hid (show CB = true ∨ RB = true ∨ CA = true by
                rw [hCB, hRB, hCA]
                rcases HBc.out with h | h
                · unfold nmB at h
                  rcases Bool.or_eq_true _ _ ▸ h with h | h
                  · exact .inl h
                  · exact .inr (.inl h)
                · exact .inr (.inr h))
              rw [← hCB] at HCb
              rw [← hRB] at HRb
              rw [← hCA] at HAb
              clear hc hgb hrb hcell hlb hCB hRB hCA
              go_upto_region 29 with (fail)
              refine last_reg29 j n7 k6 g6 gb k7 sq nc cc nr cr ac ar c.1 a10 i k10 wr HS HC1 HR2 hjl (by omega) HB CB RB HCb HRb CA HAb HH _ _ _ _ _ _ _ _ _ _ _ _ _ _ _ _ _ _ _ _ _ _ _ _ _ _ _ _ _ _ _ _ _ _ _ _ _ _ _ _ _ _ _ _ _ _ _ _ _ _ _ _ _ _ _ _ _ _ _ _ _ _ _ _ _ _ _ _ _ _ _ _ _ _ _ _ _ _ _ _ _ _ _ _ _ _ _ _ _ _ _ _ _ _ _ _ _ _ _ _ _ _ _ _ _ _ _ _ _ _ _ _ _ _ _ _ _ _ _ _ _ _ _ _ _ _ _ _ _ _ _ _ _ _ _ _ _ _ _ _ _ _ _ _ _ _ _ _ _ _ _ _ _ _ (Lib.hid ?hlastreg294)
              intro u106 u107 u108 u109 u110 u111 u112 u113 u114 u115 u116 u117 u118 u119 u120 u121 u122 u123 u124 u125 u126 u127 u128 u129 u130 u131 u132 u133 u134 u135 u136 u137 W2 hRW2
              have HG2 := Lib.hid (Grow.trans HW.out (hRW2.below (Nat.le_refl _) (by simp)))
              clear hRW2
              go_wp2
              go_roundw
              case rel => exact ⟨j + 1, by go_num, by omega, HG2⟩
              case measure => simp [intOf]; omega
            · obtain rfl : j = n7 := by omega
              have HWb := Lib.hid HW.out
              clear HW
              go_wp2_with fail
              go_loopw [17] (fun t17 wr => ∃ k : Nat, t17 = .int .i64 (k : Int) ∧ k ≤ n8 ∧ Hid (Grow w9 wr)) (fun t17 _ => n8 - (intOf t17).toNat)
              case atStart => exact ⟨0, by go_num, by omega, HWb⟩
              case round =>
                obtain ⟨k, rfl, hk, HW⟩ := hrel
                by_cases hkl : k < n8
                · obtain ⟨c, hc⟩ : ∃ c, A[k]? = some c := ⟨A[k]'(by rw [← HN8.out]; exact hkl), by simp⟩
                  obtain ⟨gb, rfl, hgb, hrb, hcell, hlb⟩ := (HC8c.out.grow HW.out).at_ hc
                  have HAb := Lib.hid (HCF.out c.1 wr HW.out)
                  rw [HAF2.out c (List.mem_of_getElem? hc)] at HAb
                  have b0 : (0 : Int) ≤ (k : Int) := by omega
                  have b1 : (k : Int) < (n8 : Int) := by omega
                  clear hc hgb hrb hlb
                  go_wp2_with fail
                  refine HAb.out.mono ?_
                  intro e w' hpost
                  obtain ⟨he, hg⟩ := hpost
                  subst he
                  have HG2 := Lib.hid (Grow.trans HW.out hg)
                  clear hg hcell
                  go_wp2_with fail
                  go_roundw
                  case rel => exact ⟨k + 1, by go_num, by omega, HG2⟩
                  case measure => simp [intOf]; omega
                · obtain rfl : k = n8 := by omega
                  have HG := Lib.hid (Grow.trans HG9.out HW.out)
                  have ee : ((i : Int) == (i : Int)) = true := by simp
                  go_wp2_with fail
                  go_ret
                  exact ⟨rfl, HG.out⟩
#print axioms last_walk
end Go.Proofs.Ytlhhbkpocpnebaa
