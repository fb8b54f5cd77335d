/- The document's actions: Do; its disk: New: the walks. -/
import Derived.Test.YtieknecbheeekaaK11
set_option linter.unusedVariables false
set_option linter.unusedSimpArgs false
namespace Go.Proofs.Ytieknecbheeekaa
open Go.RowKit Go.Maps

theorem RCP.refTo {w w' : World} {Q R : Nat} {T T' : List Nat} {d d' : DS} {L : List HE} {vl : Value} (h : RCP w Q R T d L vl) (hr : IsRef w' R T' d') (ht : Touch T w w') (hs : ∀ k ∈ T', k ∈ T ∨ w.heap.size ≤ k) : RCP w' Q R T' d' L vl := by
  have hlt := h.lt
  exact {
    obj := (ht.block Q (hlt Q (by simp)) h.qT).trans h.obj
    row := h.row.kept ht (fun g e => (h.bw g e).2)
    ref := hr
    qT := fun hm => by
      rcases hs Q hm with h1 | h1
      · exact h.qT h1
      · have := hlt Q (by simp); omega
    bw := fun k e => ⟨(h.bw k e).1, fun hm => by
      rcases hs k hm with h1 | h1
      · exact (h.bw k e).2 h1
      · have := hlt k (by simp [e]); omega⟩ }
theorem RcPost.refTo {w w' : World} {Q R : Nat} {T T' : List Nat} {d d' : DS} {L : List HE} {vl : Value} {f : Int → Option Hd} (h : RCP w Q R T d L vl) (hf : RcIs L f) (hr : IsRef w' R T' d') (ht : Touch T w w') (hs : ∀ k ∈ T', k ∈ T ∨ w.heap.size ≤ k) : RcPost Q R (Q :: (vl.ownBlock.toList ++ T)) L.length d' f w w' :=
  ⟨Q :: (vl.ownBlock.toList ++ T'), L, ⟨T', vl, rfl, h.refTo hr ht hs⟩, hf, Nat.le_refl _, ht.mono (fun k hk => .inl (by simp [hk])), fun k hk => by
    simp only [List.mem_cons, List.mem_append] at hk ⊢
    rcases hk with rfl | hk | hk
    · exact .inl (.inl rfl)
    · exact .inl (.inr (.inl hk))
    · rcases hs k hk with h1 | h1
      · exact .inl (.inr (.inr h1))
      · exact .inr h1⟩
theorem RcPost.later {Q R : Nat} {V : List Nat} {n : Nat} {d : DS} {f : Int → Option Hd} {w w1 w' : World} (hg : Grow w w1) (h : RcPost Q R V n d f w1 w') : RcPost Q R V n d f w w' := by
  obtain ⟨V', L', h1, h2, h3, h4, h5⟩ := h
  exact ⟨V', L', h1, h2, h3, (Touch.of_below hg).trans h4 (fun k hk => .inl hk), fun k hk => (h5 k hk).imp id (Nat.le_trans hg.size)⟩
theorem RcPost.same {Q R : Nat} {V : List Nat} {d : DS} {L : List HE} {f : Int → Option Hd} {w w' : World} (h : IsRC w Q R V d L) (hf : RcIs L f) (hg : Grow w w') : RcPost Q R V L.length d f w w' :=
  ⟨V, L, h.grow hg, hf, Nat.le_refl _, Touch.of_below hg, fun k hk => .inl hk⟩
set_option maxRecDepth 100000 in
set_option maxHeartbeats 4000000 in
theorem rdo_ok {w : World} {Q R : Nat} {V : List Nat} {s : CS} {L : List HE} (h : IsRC w Q R V s.d L) (hr : RcIs L s.f) (hL : L.length ≤ 100000) (p : AT) (hx : p.x.length = 256) (hl : Lim s) :
    Calls Try.prog 15 #[.pointer (some ⟨Q, 0, none⟩), .agg (ac p).toArray] w fun en w' => en = .returned (.int .i64 (s.act p).1) ∧ RcPost Q R V L.length (s.act p).2.d (s.act p).2.f w w' := by
  have hg1 := Grow.alloc w (.cells (ac p).toArray 57)
  have HG := Lib.hid hg1
  have h1 := h.grow hg1
  have hob := heap_alloc_last w (.cells (ac p).toArray 57)
  have hbl : w.heap.size < (w.alloc (.cells (ac p).toArray 57)).heap.size := by simp
  have HH := Lib.hid h1
  have HR := Lib.hid hr
  have HX := Lib.hid hx
  have HLM := Lib.hid hl
  have HLL := Lib.hid hL
  clear h hr hL hg1 h1 hl
  obtain ⟨EA, hEA⟩ : ∃ EA, EA = (ac p).toArray := ⟨_, rfl⟩
  rw [← hEA] at hob hbl HG HH ⊢
  have HEA := Lib.hid hEA
  obtain ⟨BX, hBX⟩ : ∃ BX, BX = w.heap.size := ⟨_, rfl⟩
  have z0 : (w.alloc (.cells EA 57)).cell? ⟨w.heap.size, 0, none⟩ = some (.int .u8 p.k) := (cell_at hob 0).trans (by rw [hEA]; rfl)
  have HB0 := Lib.hid hob
  have HBl := Lib.hid hbl
  clear hob hbl hEA
  by_cases c1 : p.k = 1
  · have e1 : (p.k == 1) = true := by simpa using c1
    have HA := Lib.hid (show s.act p = (s.bk p.b, s.bkS p.b) from if_pos c1)
    clear c1 hx
    go_enter Try.func15, Try.ntmps15
    go_upto_region 3 with (fail)
    clear z0
    generalize hW : w.alloc (.cells EA 57) = W1 at *
    have HW := Lib.hid hW
    clear hW
    have z1 : W1.cell? ⟨w.heap.size, 1, none⟩ = some (.int .i64 p.b) := (cell_at HB0.out 1).trans (by rw [HEA.out]; rfl)
    have HBK := Lib.hid (rback_full HH.out HR.out HLL.out p.b HLM.out.ws HLM.out.acts HLM.out.left)
    go_wp2_with fail
    refine HBK.out.mono ?_
    rintro en w2 ⟨rfl, hp⟩
    have HF := Lib.hid (hp.later HG.out)
    clear hp
    go_wp2_with fail
    go_ret
    exact ⟨by rw [HA.out]; rfl, by rw [HA.out]; exact HF.out⟩
  · have e1 : (p.k == 1) = false := by simpa using c1
    obtain ⟨T, vl, hV, hp⟩ := HH.out
    have HP := Lib.hid hp
    have HV := Lib.hid hV
    clear hp hV
    by_cases c2 : p.k = 2
    · have e2 : (p.k == 2) = true := by simpa using c2
      have HA := Lib.hid (show s.act p = (s.d.why p.b, { s with d := s.d.tried p.b p.x }) by unfold CS.act; rw [if_neg c1, if_pos c2])
      have HXX := Lib.hid hx
      clear c1 c2 hx
      go_enter Try.func15, Try.ntmps15
      go_upto_region 5 with (fail)
      clear z0
      rw [← hBX]
      rw [← hBX] at HB0 HBl
      clear hBX
      generalize w.alloc (.cells EA 57) = W1 at *
      have HQ0 := Lib.hid (show Q < W1.heap.size ∧ W1.cell? ⟨Q, 0, none⟩ = some (.pointer (some ⟨R, 0, none⟩)) from ⟨HP.out.lt Q (by simp), cell_at HP.out.obj 0⟩)
      have HB1 := Lib.hid (show BX < W1.heap.size ∧ W1.cell? ⟨BX, 1, none⟩ = some (.int .i64 p.b) from ⟨HBl.out, (cell_at HB0.out 1).trans (by rw [HEA.out]; rfl)⟩)
      have HBL := Lib.hid HBl.out
      have HRX := Lib.hid (show W1.rangeAt BX 2 (bc p.x) from fun j v hv => by
        rw [cell_at HB0.out (2 + j), HEA.out, List.getElem?_toArray, show 2 + j = j + 1 + 1 by omega]
        exact hv)
      have HSz := Lib.hid (show (Try.prog.info? 44).map (·.size) = some (bc p.x).length by rw [bc_length, HXX.out]; exact size32)
      have HWR := Lib.hid (fun wq (ht : Touch [] W1 wq) => rtried_ok (HP.out.ref.kept ht (by simp)) p.b p.x HXX.out HLM.out.ws HLM.out.acts HLM.out.left)
      refine wp_region_facts_tail 8 (by kernel_rfl) (by kernel_rfl) [[], [(0, some 15)], [(1, some 16)], [(2, some 17)], [], [(4, some 19)], [], [(6, some 21)]] [(0, some 15), (1, some 16), (2, some 17), (3, some 18), (4, some 19), (5, some 20), (6, some 21), (7, some 22)] (by kernel_rfl) (by kernel_rfl) (by kernel_rfl) (Touch []) (Touch.refl []) (fun _ _ _ h h' => h.trans h' (fun i hi => .inl hi)) [Is (Value.pointer (some ⟨Q, 0, none⟩)), Is (Value.pointer (some ⟨Q, 0, none⟩)), Is (Value.pointer (some ⟨Q, 0, none⟩)), Is (Value.pointer (some ⟨R, 0, none⟩)), Is (Value.pointer (some ⟨BX, 1, none⟩)), Is (Value.int .i64 p.b), Is (Value.pointer (some ⟨BX, 2, none⟩)), Is (Value.agg (bc p.x).toArray)] rfl ⟨is_stab _ _, is_stab _ _, is_stab _ _, is_stab _ _, is_stab _ _, is_stab _ _, is_stab _ _, is_stab _ _, trivial⟩ ⟨?o0, ?o1, ?o2, ?o3, ?o4, ?o5, ?o6, ?o7, trivial⟩ ?_
      case o0 =>
        intro vals wq hRq hpq
        simp only [List.getD_cons_zero, List.getD_cons_succ, canonP]
        simp only [Oper.gives]
        go_simp
        exact ⟨is_mk _ _, (Touch.refl []) _⟩
      case o1 =>
        intro vals wq hRq hpq
        simp only [factsP, List.getD_cons_zero, List.getD_cons_succ] at hpq
        have f0 := hpq.1
        replace hpq := hpq.2
        clear hpq
        replace f0 : vals 0 = _ := f0
        simp only [List.getD_cons_zero, List.getD_cons_succ, canonP, f0]
        clear f0
        simp only [Oper.gives]
        go_simp
        exact ⟨is_mk _ _, Touch.refl _ _⟩
      case o2 =>
        intro vals wq hRq hpq
        simp only [factsP, List.getD_cons_zero, List.getD_cons_succ] at hpq
        have f1 := hpq.1
        replace hpq := hpq.2
        clear hpq
        replace f1 : vals 1 = _ := f1
        simp only [List.getD_cons_zero, List.getD_cons_succ, canonP, f1]
        clear f1
        simp only [Oper.gives]
        go_simp
        exact ⟨is_mk _ _, (Touch.refl []) _⟩
      case o3 =>
        intro vals wq hRq hpq
        simp only [factsP, List.getD_cons_zero, List.getD_cons_succ] at hpq
        have f2 := hpq.1
        replace hpq := hpq.2
        clear hpq
        replace f2 : vals 2 = _ := f2
        simp only [List.getD_cons_zero, List.getD_cons_succ, canonP, f2]
        clear f2
        have hcc : wq.cell? ⟨Q, 0, none⟩ = some (.pointer (some ⟨R, 0, none⟩)) := (Touch.cell ((Touch.drew [] _).trans hRq (by simp)) (a := ⟨Q, 0, none⟩) HQ0.out.1 (by simp)).trans HQ0.out.2
        simp only [Oper.gives]
        go_simp
        exact ⟨is_mk _ _, Touch.refl _ _⟩
      case o4 =>
        intro vals wq hRq hpq
        simp only [List.getD_cons_zero, List.getD_cons_succ, canonP]
        simp only [Oper.gives]
        go_simp
        exact ⟨is_mk _ _, (Touch.refl []) _⟩
      case o5 =>
        intro vals wq hRq hpq
        simp only [factsP, List.getD_cons_zero, List.getD_cons_succ] at hpq
        have f4 := hpq.1
        replace hpq := hpq.2
        clear hpq
        replace f4 : vals 4 = _ := f4
        simp only [List.getD_cons_zero, List.getD_cons_succ, canonP, f4]
        clear f4
        have hcc : wq.cell? ⟨BX, 1, none⟩ = some (.int .i64 p.b) := (Touch.cell ((Touch.drew [] _).trans hRq (by simp)) (a := ⟨BX, 1, none⟩) HB1.out.1 (by simp)).trans HB1.out.2
        simp only [Oper.gives]
        go_simp
        exact ⟨is_mk _ _, Touch.refl _ _⟩
      case o6 =>
        intro vals wq hRq hpq
        simp only [List.getD_cons_zero, List.getD_cons_succ, canonP]
        simp only [Oper.gives]
        go_simp
        exact ⟨is_mk _ _, (Touch.refl []) _⟩
      case o7 =>
        intro vals wq hRq hpq
        simp only [factsP, List.getD_cons_zero, List.getD_cons_succ] at hpq
        have f6 := hpq.1
        replace hpq := hpq.2
        clear hpq
        replace f6 : vals 6 = _ := f6
        simp only [List.getD_cons_zero, List.getD_cons_succ, canonP, f6]
        clear f6
        have hrg : wq.rangeAt BX 2 (bc p.x) := range_touch HRX.out ((Touch.drew [] _).trans hRq (by simp)) HBL.out (by simp)
        exact gives_load_mid 44 _ rfl BX 2 rfl (bc p.x) _ hrg Try.underlying44 rfl HSz.out ⟨is_mk _ _, Touch.refl _ _⟩
      intro vals wz hRwz hfwz
      simp only [AllFacts] at hfwz
      have g0 := hfwz.1
      replace hfwz := hfwz.2
      have g1 := hfwz.1
      replace hfwz := hfwz.2
      have g2 := hfwz.1
      replace hfwz := hfwz.2
      have g3 := hfwz.1
      replace hfwz := hfwz.2
      have g4 := hfwz.1
      replace hfwz := hfwz.2
      have g5 := hfwz.1
      replace hfwz := hfwz.2
      have g6 := hfwz.1
      replace hfwz := hfwz.2
      have g7 := hfwz.1
      replace hfwz := hfwz.2
      clear hfwz
      replace g0 : vals 0 = _ := g0
      replace g1 : vals 1 = _ := g1
      replace g2 : vals 2 = _ := g2
      replace g3 : vals 3 = _ := g3
      replace g4 : vals 4 = _ := g4
      replace g5 : vals 5 = _ := g5
      replace g6 : vals 6 = _ := g6
      replace g7 : vals 7 = _ := g7
      simp only [List.drop_succ_cons, List.drop_zero]
      simp only [canonP, Act.put, List.setIfInBounds_toArray, List.set_cons_succ, List.set_cons_zero, g0, g1, g2, g3, g4, g5, g6, g7]
      clear g0 g1 g2 g3 g4 g5 g6 g7
      have HTW := Lib.hid ((Touch.drew [] W1).trans hRwz (by simp))
      clear hRwz
      go_wp2_with fail
      refine (HWR.out _ HTW.out).mono ?_
      intro en w2 hpost
      obtain ⟨he, T', h1, h2, h3⟩ := hpost
      subst he
      have HF := Lib.hid (show RcPost Q R V L.length (s.d.tried p.b p.x) s.f w w2 by
        rw [HV.out]
        exact (RcPost.refTo HP.out HR.out h1 ((HTW.out.mono (by simp)).trans h2 (fun k hk => .inl hk)) (fun k hk => (h3 k hk).imp id (Nat.le_trans HTW.out.size))).later HG.out)
      clear h1 h2 h3
      go_wp2_with fail
      go_ret
      exact ⟨by rw [HA.out]; rfl, by rw [HA.out]; exact HF.out⟩
    · have e2 : (p.k == 2) = false := by simpa using c2
      by_cases c3 : p.k = 3
      · have e3 : (p.k == 3) = true := by simpa using c3
        have q0 := cell_at HP.out.obj 0
        simp only [List.getElem?_toArray, List.getElem?_cons_zero] at q0
        cases hd : s.d.dead with
        | true =>
          have HA := Lib.hid (show s.act p = (30, s) by unfold CS.act; rw [if_neg c1, if_neg c2, if_pos c3, hd]; rfl)
          have HFD := Lib.hid (rflush_dead HP.out.ref hd)
          have HS := Lib.hid (RcPost.same HH.out HR.out (Grow.refl _))
          clear c1 c2 c3 hx hd
          go_enter Try.func15, Try.ntmps15
          go_wp2_with fail
          refine HFD.out.mono ?_
          rintro en w' ⟨rfl, rfl⟩
          go_wp2_with fail
          go_ret
          exact ⟨by rw [HA.out]; rfl, by rw [HA.out]; exact HS.out.later HG.out⟩
        | false =>
          have HA := Lib.hid (show s.act p = (0, { s with d := s.d.flushed }) by unfold CS.act; rw [if_neg c1, if_neg c2, if_pos c3, hd]; rfl)
          have HFD := Lib.hid (rflush_ok HP.out.ref hd HLM.out.wlt (by have := HLM.out.ws; omega) HLM.out.acts HLM.out.left)
          clear c1 c2 c3 hx hd
          go_enter Try.func15, Try.ntmps15
          go_wp2_with fail
          refine HFD.out.mono ?_
          intro en w2 hpost
          obtain ⟨he, T', h1, h2, h3⟩ := hpost
          subst he
          have HF := Lib.hid (show RcPost Q R V L.length s.d.flushed s.f w w2 by
            rw [HV.out]
            exact (RcPost.refTo HP.out HR.out h1 h2 h3).later HG.out)
          clear h1 h2 h3
          go_wp2_with fail
          go_ret
          exact ⟨by rw [HA.out]; rfl, by rw [HA.out]; exact HF.out⟩
      · have e3 : (p.k == 3) = false := by simpa using c3
        have HA := Lib.hid (show s.act p = (2, s) by unfold CS.act; rw [if_neg c1, if_neg c2, if_neg c3])
        have HS := Lib.hid (RcPost.same HH.out HR.out (Grow.refl _))
        clear c1 c2 c3 hx
        go_enter Try.func15, Try.ntmps15
        go_wp2_with fail
        go_ret
        exact ⟨by rw [HA.out]; rfl, by rw [HA.out]; exact HS.out.later HG.out⟩
#print axioms rdo_ok
theorem newD_load (n : Nat) : newD n = loadD (List.replicate n zeroB) := rfl
set_option maxHeartbeats 2000000 in
theorem rnew_ok (n : Nat) (h1 : 1 ≤ n) (h2 : n ≤ 2048) (w : World) : Calls Try.prog 5 #[.int .i64 (n : Int)] w (RLoadPost (List.replicate n zeroB) w) := by
  obtain ⟨M, hM, hmk⟩ := mk_run n (by omega)
  have HRW := Lib.hid (row_new (by omega) hM (heap_alloc_last w (.cells M 44)))
  have hlen : (List.replicate n zeroB).length = n := List.length_replicate
  have HLD := Lib.hid (rload_ok HRW.out (by rw [hlen]; exact h1) (by rw [hlen]; exact h2))
  have d0 : decide ((n : Int) < 1) = false := by simp; omega
  have d1 : decide ((2048 : Int) < (n : Int)) = false := by simp; omega
  have HG := Lib.hid (Grow.alloc w (.cells M 44))
  clear hM hlen
  go_enter Try.func5, Try.ntmps5
  go_wp2_with fail
  refine HLD.out.mono ?_
  intro e w2 hpost
  obtain ⟨R, T, he, h3, h4, h5⟩ := hpost
  subst he
  have HF := Lib.hid (show IsRef w2 R T (loadD (List.replicate n zeroB)) ∧ Grow w w2 ∧ ∀ k ∈ T, w.heap.size ≤ k from ⟨h3, Grow.trans HG.out h4, fun k hk => Nat.le_trans HG.out.size (h5 k hk)⟩)
  clear h3 h4 h5
  go_wp2_with fail
  go_ret2
  exact ⟨R, T, rfl, HF.out⟩
#print axioms rnew_ok
end Go.Proofs.Ytieknecbheeekaa
