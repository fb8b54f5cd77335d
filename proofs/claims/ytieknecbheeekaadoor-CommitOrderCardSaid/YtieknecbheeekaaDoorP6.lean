/- pack.Pack: the walk. -/
import Derived.Test.YtieknecbheeekaaDoorP5
import Derived.Sort.CutIn
set_option linter.unusedVariables false
set_option linter.unusedSimpArgs false
namespace Go.Proofs.YtieknecbheeekaaDoor
open Go.RowKit Go.Maps Go.Shelf
attribute [local go_sem] Oper.semAt_some

def PackPost (seq : Nat) (cs : List Cp) (rs : List Int) (W : World) (e : Ending) (w' : World) : Prop := ∃ (v : Value) (er : Int), e = .returned (.tuple #[v, .int .i64 er]) ∧ Grow W w' ∧ (er ≠ 0 → v = .slice none 0 0) ∧ (Single seq cs rs → er = 0) ∧
  (er = 0 → (1 ≤ seq ∧ seq ≤ 2147483648) ∧ ∃ bl, GInv W v bl w' ∧ bl.length = sizeN cs.length rs.length ∧ 2 ≤ bl.length ∧ bl.length ≤ 255 ∧ (Single seq cs rs → ∀ c, cs = [c] → bl[1]? = some c.2))
theorem results_pk {tmps : Array Value} {w : World} {VB EB n c : Nat} {a : Option Addr} {z : Int} (hp : tmps.getD 2 undef = .pointer (some ⟨VB, 0, none⟩)) (hq : tmps.getD 3 undef = .pointer (some ⟨EB, 0, none⟩)) (hV : w.cell? ⟨VB, 0, none⟩ = some (.slice a n c)) (hE : w.cell? ⟨EB, 0, none⟩ = some (.int .i64 z)) :
    (results Tryd.f12 tmps).run Tryd.prog w = .ok (.tuple #[.slice a n c, .int .i64 z]) w := by
  have hr : Tryd.f12.results = #[.cell 2 57, .cell 3 30] := by kernel_rfl
  unfold results
  rw [hr]
  have hp : tmps[2]?.getD undef = .pointer (some ⟨VB, 0, none⟩) := by rw [← Array.getD_eq_getD_getElem?]; exact hp
  have hq : tmps[3]?.getD undef = .pointer (some ⟨EB, 0, none⟩) := by rw [← Array.getD_eq_getD_getElem?]; exact hq
  simp [hp, hq, go_sem, hV, hE]
theorem pk_ret0 {n : Nat} {R : Ending → World → Prop} {tmps : Array Value} {w : World} {VB EB m c : Nat} {a : Option Addr} {z : Int} (hp : tmps.getD 2 undef = .pointer (some ⟨VB, 0, none⟩)) (hq : tmps.getD 3 undef = .pointer (some ⟨EB, 0, none⟩)) (hV : w.cell? ⟨VB, 0, none⟩ = some (.slice a m c)) (hE : w.cell? ⟨EB, 0, none⟩ = some (.int .i64 z))
    (h : R (.returned (.tuple #[.slice a m c, .int .i64 z])) w) : bodyPostM Fence.wide n Tryd.prog Tryd.f12 R .ret ⟨tmps, []⟩ w := ⟨_, results_pk hp hq hV hE, h⟩
theorem cell_put {w : World} {D B : Nat} {o : Obj} (h : D ≠ B) : (w.putObj D o).cell? ⟨B, 0, none⟩ = w.cell? ⟨B, 0, none⟩ := World.cell?_of_block (World.putObj_heap_other (fun e => h e.symm))
theorem pk_ret1 {n D : Nat} {args : Array Value} {R : Ending → World → Prop} {tmps : Array Value} {w : World} {VB EB m c : Nat} {a : Option Addr} {z : Int} (hD : w.heap[D]? = some (.deferred (some []))) (h1 : D ≠ VB) (h2 : D ≠ EB) (hp : tmps.getD 2 undef = .pointer (some ⟨VB, 0, none⟩)) (hq : tmps.getD 3 undef = .pointer (some ⟨EB, 0, none⟩)) (hV : w.cell? ⟨VB, 0, none⟩ = some (.slice a m c)) (hE : w.cell? ⟨EB, 0, none⟩ = some (.int .i64 z))
    (h : ∀ w', Touch [D] w w' → R (.returned (.tuple #[.slice a m c, .int .i64 z])) w') : bodyPostM Fence.wide n Tryd.prog Tryd.f12 R .ret ⟨tmps, [{ target := .collected D, args := args }]⟩ w :=
  ⟨by simp, .inl ⟨_, _, rfl, run_takeDeferred hD, ⟨_, results_pk hp hq ((cell_put h1).trans hV) ((cell_put h2).trans hE), h _ (Touch.putObj _ (by simp) _)⟩⟩⟩
theorem pk_ret2 {n D E : Nat} {args args2 : Array Value} {R : Ending → World → Prop} {tmps : Array Value} {w : World} {VB EB m c : Nat} {a : Option Addr} {z : Int} (hD : w.heap[D]? = some (.deferred (some []))) (hE2 : w.heap[E]? = some (.deferred (some []))) (hDE : D ≠ E) (h1 : D ≠ VB ∧ E ≠ VB) (h2 : D ≠ EB ∧ E ≠ EB) (hp : tmps.getD 2 undef = .pointer (some ⟨VB, 0, none⟩)) (hq : tmps.getD 3 undef = .pointer (some ⟨EB, 0, none⟩)) (hV : w.cell? ⟨VB, 0, none⟩ = some (.slice a m c)) (hE : w.cell? ⟨EB, 0, none⟩ = some (.int .i64 z))
    (h : ∀ w', Touch [D, E] w w' → R (.returned (.tuple #[.slice a m c, .int .i64 z])) w') : bodyPostM Fence.wide n Tryd.prog Tryd.f12 R .ret ⟨tmps, [{ target := .collected D, args := args }, { target := .collected E, args := args2 }]⟩ w :=
  ⟨by simp, .inl ⟨_, _, rfl, run_takeDeferred hD, ⟨by simp, .inl ⟨_, _, rfl, run_takeDeferred ((World.putObj_heap_other (fun e => hDE e.symm)).trans hE2), ⟨_, results_pk hp hq ((cell_put h1.2).trans ((cell_put h1.1).trans hV)) ((cell_put h2.2).trans ((cell_put h2.1).trans hE)), h _ ((Touch.putObj (S := [D, E]) _ (by simp) _).trans (Touch.putObj (S := [D, E]) _ (by simp) _) (fun i hi => .inl hi))⟩⟩⟩⟩⟩
theorem rowsC_ok (a : Option Addr) (n c : Nat) (w : World) : Calls Tryd.prog 25 #[.slice a n c, .int .i64 30] w fun e w' => e = .returned (.func (.func 44) #[] #[.pointer (some ⟨w.heap.size, 0, none⟩), .pointer (some ⟨w.heap.size + 1, 0, none⟩)]) ∧ w' = (w.alloc (.cells #[.slice a n c] 25)).alloc (.cells #[.int .i64 30] 3) := by
  go_enter Tryd.func25, Tryd.ntmps25
  go_wp2
  go_ret
  exact ⟨rfl, rfl⟩
theorem rowsI_ok (a : Option Addr) (n c : Nat) (w : World) : Calls Tryd.prog 27 #[.slice a n c, .int .i64 60] w fun e w' => e = .returned (.func (.func 47) #[] #[.pointer (some ⟨w.heap.size, 0, none⟩), .pointer (some ⟨w.heap.size + 1, 0, none⟩)]) ∧ w' = (w.alloc (.cells #[.slice a n c] 26)).alloc (.cells #[.int .i64 60] 3) := by
  go_enter Tryd.func27, Tryd.ntmps27
  go_wp2
  go_ret
  exact ⟨rfl, rfl⟩
#print axioms rowsI_ok

theorem cell3 {w : World} {G : Nat} {a b c : Value} {t : TypeId} (h : w.heap[G]? = some (.cells #[a, b, c] t)) : w.cell? ⟨G, 0, none⟩ = some a ∧ w.cell? ⟨G, 1, none⟩ = some b ∧ w.cell? ⟨G, 2, none⟩ = some c := ⟨cell_at h 0, cell_at h 1, cell_at h 2⟩
/-- the transaction and the results' cells, ahead of the blocks -/
structure Pk0 (W : World) (B VB EB seq : Nat) (vc vr : Value) (wr : World) : Prop where
  tr : wr.heap[B]? = some (.cells #[.int .u32 (seq : Int), vc, vr] 28)
  v : wr.heap[VB]? = some (.cells #[.slice none 0 0] 57)
  e : wr.heap[EB]? = some (.cells #[.int .i64 0] 30)
  grow : Grow W wr
theorem Pk0.later {W : World} {B VB EB seq : Nat} {vc vr : Value} {wr w' : World} (h : Pk0 W B VB EB seq vc vr wr) (hg : Grow wr w') : Pk0 W B VB EB seq vc vr w' :=
  ⟨(hg.block _ (Array.getElem?_eq_some_iff.1 h.tr).1).trans h.tr, (hg.block _ (Array.getElem?_eq_some_iff.1 h.v).1).trans h.v, (hg.block _ (Array.getElem?_eq_some_iff.1 h.e).1).trans h.e, Grow.trans h.grow hg⟩
set_option maxRecDepth 100000 in
set_option maxHeartbeats 8000000 in
theorem pack_ok {W : World} {vc vr : Value} {cs : List Cp} {rs : List Int} (hT : Tab W) (hc : CSee W vc cs) (hr : ISee W vr rs) (hcl : cs.length ≤ 260) (hrl : rs.length ≤ 600) (hck : ∀ a n c, vc = .slice a n c → n ≤ c ∧ c ≤ maxLen) (hrk : ∀ a n c, vr = .slice a n c → n ≤ c ∧ c ≤ maxLen) (seq : Nat) :
    Calls Tryd.prog 12 #[.agg #[.int .u32 (seq : Int), vc, vr]] W (PackPost seq cs rs W) := by
  have HT := Lib.hid hT
  have HC := Lib.hid hc
  have HR := Lib.hid hr
  obtain ⟨ac, kc, hvc⟩ := hc.len
  obtain ⟨ar, kr, hvr⟩ := hr.len
  obtain ⟨nc, hnc⟩ : ∃ nc, nc = cs.length := ⟨_, rfl⟩
  obtain ⟨nr, hnr⟩ : ∃ nr, nr = rs.length := ⟨_, rfl⟩
  rw [← hnc] at hvc hcl
  rw [← hnr] at hvr hrl
  subst hvc hvr
  have HKC := Lib.hid (hck _ _ _ rfl)
  have HKR := Lib.hid (hrk _ _ _ rfl)
  have HNC := Lib.hid hnc
  have HNR := Lib.hid hnr
  obtain ⟨ib, hib, hx0, hx1, hx2⟩ := info_parts info32b
  have HIB := Lib.hid hib
  clear hT hc hr hnc hnr hib hck hrk
  refine (callsIn_wide (n := 8)).1 ?_
  refine callsIn_of_wp_marks Tryd.func12 rfl trivial (wpIn_wide.2 ?_) rfl
  simp only [Tryd.ntmps12, List.size_toArray, List.length_cons, List.length_nil, Nat.reduceAdd, Nat.reduceSub, Array.replicate_succ, Array.replicate_zero, List.push_toArray, List.append_toArray, List.nil_append, List.cons_append]
  go_upto_region 1 with fail
  have HP0 := Lib.hid (show Pk0 W W.heap.size (W.heap.size + 1) (W.heap.size + 1 + 1) seq (.slice ac nc kc) (.slice ar nr kr) (((W.alloc (.cells #[.int .u32 (seq : Int), .slice ac nc kc, .slice ar nr kr] 28)).alloc (.cells #[.slice none 0 0] 57)).alloc (.cells #[.int .i64 0] 30)) from
    ⟨(Below.heap_alloc _ _ _ (by simp; omega)).trans (heap_one _ _ _), (Below.heap_alloc _ _ _ (by simp)).trans (heap_two _ _ _), by
      have := heap_alloc_last ((W.alloc (.cells #[.int .u32 (seq : Int), .slice ac nc kc, .slice ar nr kr] 28)).alloc (.cells #[.slice none 0 0] 57)) (.cells #[.int .i64 0] 30)
      simpa using this, ((Grow.alloc _ _).trans (Grow.alloc _ _)).trans (Grow.alloc _ _)⟩)
  generalize ((W.alloc (.cells #[.int .u32 (seq : Int), .slice ac nc kc, .slice ar nr kr] 28)).alloc (.cells #[.slice none 0 0] 57)).alloc (.cells #[.int .i64 0] 30) = w0 at *
  obtain ⟨B, hB⟩ : ∃ B, B = W.heap.size := ⟨_, rfl⟩
  obtain ⟨VB, hVB⟩ : ∃ VB, VB = B + 1 := ⟨_, rfl⟩
  obtain ⟨EB, hEB⟩ : ∃ EB, EB = VB + 1 := ⟨_, rfl⟩
  rw [← hB, ← hVB, ← hEB] at HP0 ⊢
  have HBE := Lib.hid (show B = W.heap.size ∧ VB = B + 1 ∧ EB = VB + 1 from ⟨hB, hVB, hEB⟩)
  have hne1 : ¬ VB = EB := by omega
  have hne2 : ¬ EB = VB := by omega
  clear hB hVB hEB
  obtain ⟨q0, q1, q2⟩ := cell3 HP0.out.tr
  go_wp2_with fail
  refine (pmay_ok (HC.out.grow HP0.out.grow) (HR.out.grow HP0.out.grow) (by rw [← HNC.out]; omega) (by rw [← HNR.out]; omega) seq).mono ?_
  intro e w1 hp
  obtain ⟨b, rfl, hg1, hb1, hb2⟩ := hp
  have HP1 := Lib.hid (HP0.out.later hg1)
  have HB1 := Lib.hid hb1
  have HB2 := Lib.hid hb2
  clear hg1 hb1 hb2 q0 q1 q2
  cases b with
  | false =>
    have v0 : w1.cell? ⟨VB, 0, none⟩ = some (.slice none 0 0) := cell_at HP1.out.v 0
    have v1 : w1.frozen? ⟨VB, 0, none⟩ = false := frozen_at HP1.out.v 0
    have e0 : w1.cell? ⟨EB, 0, none⟩ = some (.int .i64 0) := cell_at HP1.out.e 0
    have e1 : w1.frozen? ⟨EB, 0, none⟩ = false := frozen_at HP1.out.e 0
    have HV2 := Lib.hid ((Below.heap_setCell (w1.setCell ⟨VB, 0, none⟩ (.slice none 0 0)) ⟨EB, 0, none⟩ (.int .i64 150) VB (by have := HBE.out; simp; omega)).trans (heap_set HP1.out.v 0 (.slice none 0 0)))
    have HE2 := Lib.hid (heap_set ((Below.heap_setCell w1 ⟨VB, 0, none⟩ (.slice none 0 0) EB (by have := HBE.out; simp; omega)).trans HP1.out.e) 0 (.int .i64 150))
    have HG2 := Lib.hid (show Grow W ((w1.setCell ⟨VB, 0, none⟩ (.slice none 0 0)).setCell ⟨EB, 0, none⟩ (.int .i64 150)) from (HP1.out.grow.setCell (p := ⟨VB, 0, none⟩) (by have := HBE.out; simp; omega) _).setCell (p := ⟨EB, 0, none⟩) (by have := HBE.out; simp; omega) _)
    have HNS := Lib.hid (show ¬ Single seq cs rs from fun h => by have := HB2.out h; cases this)
    go_wp2_with fail
    exact pk_ret0 rfl rfl (cell_at HV2.out 0) (cell_at HE2.out 0) ⟨_, 150, rfl, HG2.out, fun _ => rfl, fun h => absurd h HNS.out, fun h => absurd h (by omega)⟩
  | true =>
    have HOK := Lib.hid (HB1.out rfl)
    have hne : ¬ (nc = 0 ∧ nr = 0) := by
      rintro ⟨h1, h2⟩
      rcases HOK.out.2 with h | h
      · exact h (List.eq_nil_of_length_eq_zero (by rw [← HNC.out]; exact h1))
      · exact h (List.eq_nil_of_length_eq_zero (by rw [← HNR.out]; exact h2))
    have HSZ := Lib.hid (fun w => size_ok nc nr (by omega) (by omega) hne w)
    have hsz2 : 2 ≤ sizeN nc nr := by unfold sizeN; omega
    obtain ⟨sz, hsz⟩ : ∃ sz, sz = sizeN nc nr := ⟨_, rfl⟩
    rw [← hsz] at HSZ hsz2
    have HSE := Lib.hid hsz
    obtain ⟨q0, q1, q2⟩ := cell3 HP1.out.tr
    clear hne hsz
    go_wp2_with fail
    refine (HSZ.out _).mono ?_
    rintro e w' ⟨rfl, rfl⟩
    by_cases hbig : sz > 255
    · have d0 : decide ((sz : Int) > 255) = true := decide_eq_true (by omega)
      have v0 : w1.cell? ⟨VB, 0, none⟩ = some (.slice none 0 0) := cell_at HP1.out.v 0
      have v1 : w1.frozen? ⟨VB, 0, none⟩ = false := frozen_at HP1.out.v 0
      have e0 : w1.cell? ⟨EB, 0, none⟩ = some (.int .i64 0) := cell_at HP1.out.e 0
      have e1 : w1.frozen? ⟨EB, 0, none⟩ = false := frozen_at HP1.out.e 0
      have HV2 := Lib.hid ((Below.heap_setCell (w1.setCell ⟨VB, 0, none⟩ (.slice none 0 0)) ⟨EB, 0, none⟩ (.int .i64 4) VB (by have := HBE.out; simp; omega)).trans (heap_set HP1.out.v 0 (.slice none 0 0)))
      have HE2 := Lib.hid (heap_set ((Below.heap_setCell w1 ⟨VB, 0, none⟩ (.slice none 0 0) EB (by have := HBE.out; simp; omega)).trans HP1.out.e) 0 (.int .i64 4))
      have HG2 := Lib.hid (show Grow W ((w1.setCell ⟨VB, 0, none⟩ (.slice none 0 0)).setCell ⟨EB, 0, none⟩ (.int .i64 4)) from (HP1.out.grow.setCell (p := ⟨VB, 0, none⟩) (by have := HBE.out; simp; omega) _).setCell (p := ⟨EB, 0, none⟩) (by have := HBE.out; simp; omega) _)
      have HNS := Lib.hid (show ¬ Single seq cs rs from fun h => by
        obtain ⟨_, hr0, c, hc0, _⟩ := h
        have h1 := HNC.out
        have h2 := HNR.out
        have h3 := HSE.out
        rw [hc0] at h1
        rw [hr0] at h2
        simp at h1 h2
        rw [h1, h2] at h3
        unfold sizeN at h3
        omega)
      go_wp2_with fail
      exact pk_ret0 rfl rfl (cell_at HV2.out 0) (cell_at HE2.out 0) ⟨_, 4, rfl, HG2.out, fun _ => rfl, fun h => absurd h HNS.out, fun h => absurd h (by omega)⟩
    · have d0 : decide ((sz : Int) > 255) = false := decide_eq_false (by omega)
      have hsz3 : sz ≤ 255 := by omega
      go_upto_region 7 with (refine wpList_make_row rfl 57 _ _ rfl 34 ib (.agg (bc zeroB).toArray) 256 256 Tryd.underlying57 HIB.out hx0 hx1 hx2 sz rfl rfl (by omega) (by omega) ?_; intro w2 hr2 hg2)
      have HRW := Lib.hid (show BRow w2 (.slice (some ⟨w1.heap.size, 0, none⟩) 0 sz) [] from hr2)
      have HP2 := Lib.hid (HP1.out.later hg2)
      have HL2 := Lib.hid (show w1.heap.size < w2.heap.size from Row.lt hr2 rfl)
      have HW1 := Lib.hid (show W.heap.size + 3 ≤ w1.heap.size by have h1 := (Array.getElem?_eq_some_iff.1 HP1.out.e).1; have h2 := HBE.out; omega)
      obtain ⟨G0, hG0⟩ : ∃ G0, G0 = w1.heap.size := ⟨_, rfl⟩
      rw [← hG0] at HRW HL2 HW1 ⊢
      clear hr2 hg2 d0 hG0
      go_upto_region 8 with fail
      have HM0 := Lib.hid (show PkMem W [] B VB EB w2.heap.size (w2.heap.size + 1) seq (.slice ac nc kc) (.slice ar nr kr) (.slice (some ⟨G0, 0, none⟩) 0 sz) [] 0 ((w2.alloc (.cells #[.slice (some ⟨G0, 0, none⟩) 0 sz] 57)).alloc (.cells #[.int .i64 0] 30)) from
        have k := HP2.out.later ((Grow.alloc w2 (.cells #[.slice (some ⟨G0, 0, none⟩) 0 sz] 57)).trans (Grow.alloc _ (.cells #[.int .i64 0] 30)))
        { tr := k.tr, v := k.v, e := k.e, bb := heap_one _ _ _, rb := heap_two _ _ _
          row := HRW.out.grow ((Grow.alloc _ _).trans (Grow.alloc _ _))
          lo := fun q hq => by have e : q = G0 := (by cases hq; rfl); rw [e]; exact ⟨by have := HW1.out; omega, by simp⟩
          own := by have h1 := (Array.getElem?_eq_some_iff.1 HP2.out.e).1; have h2 := HBE.out; omega
          out := by simp
          grow := k.grow })
      generalize (w2.alloc (.cells #[.slice (some ⟨G0, 0, none⟩) 0 sz] 57)).alloc (.cells #[.int .i64 0] 30) = w3 at *
      obtain ⟨BB, hBB⟩ : ∃ BB, BB = w2.heap.size := ⟨_, rfl⟩
      obtain ⟨RB, hRB⟩ : ∃ RB, RB = BB + 1 := ⟨_, rfl⟩
      rw [← hBB, ← hRB] at HM0 ⊢
      rw [← hBB] at HL2
      have HBR := Lib.hid hRB
      clear hBB hRB HRW HP2
      obtain ⟨q0, q1, q2⟩ := cell3 HM0.out.tr
      go_wp2_with fail
      refine (rowsC_ok ac nc kc _).mono ?_
      rintro e w4 ⟨rfl, hw4⟩
      have HW4 := Lib.hid hw4
      clear hw4 q0 q1 q2
      go_wp2_with fail
      obtain ⟨Bl, hBl⟩ : ∃ Bl, Bl = w3.heap.size := ⟨_, rfl⟩
      have HS4 := Lib.hid (show w4.heap.size = Bl + 2 by rw [HW4.out, hBl]; simp)
      have HL4 := Lib.hid (show w4.heap[Bl]? = some (.cells #[.slice ac nc kc] 25) by rw [HW4.out, hBl]; exact heap_one _ _ _)
      have HN4 := Lib.hid (show w4.heap[Bl + 1]? = some (.cells #[.int .i64 30] 3) by rw [HW4.out, hBl]; exact heap_two _ _ _)
      have HG34 := Lib.hid (show Grow w3 w4 by rw [HW4.out]; exact (Grow.alloc _ _).trans (Grow.alloc _ _))
      rw [← hBl]
      obtain ⟨S, hS⟩ : ∃ S, S = (w4.heap.size + 1) :: w4.heap.size :: [Bl, Bl + 1] := ⟨_, rfl⟩
      have HSL := Lib.hid (show ∀ q ∈ S, Bl ≤ q ∧ q ≤ w4.heap.size + 1 from fun q hq => by
        rw [hS] at hq
        have := HS4.out
        simp at hq
        omega)
      have HSE4 := Lib.hid hS
      have HWB := Lib.hid (show W.heap.size ≤ Bl by rw [hBl]; exact HM0.out.grow.size)
      have HRBl := Lib.hid (show RB < Bl by rw [hBl]; exact HM0.out.lt)
      have HM4 := Lib.hid (show PkMem W S B VB EB BB RB seq (.slice ac nc kc) (.slice ar nr kr) (.slice (some ⟨G0, 0, none⟩) 0 sz) [] 0 w4 from
        ((HM0.out.keep (Touch.of_below HG34.out) (by simp)).other S (fun q hq hm => by have e : q = G0 := (by cases hq; rfl); rw [e] at hm; have h1 := HSL.out _ hm; have h2 := HL2.out; have h3 := HBR.out; have h4 := HRBl.out; omega)
          (by have h4 := HRBl.out; have h5 := HM0.out.own; refine ⟨?_, ?_, ?_, ?_, ?_⟩ <;> (intro hm; have := HSL.out _ hm; omega))))
      clear hBl hS HW4 HM0 HG34
      obtain ⟨gC, oC, hgo⟩ : ∃ gC oC, 0 < nc → ac = some ⟨gC, oC, none⟩ := by
        by_cases h : 0 < nc
        · obtain ⟨c0, hc0⟩ : ∃ c0, cs[0]? = some c0 := ⟨cs[0]'(by rw [← HNC.out]; exact h), by simp⟩
          obtain ⟨g, o, ha, _⟩ := HC.out.at_ hc0
          exact ⟨g, o, fun _ => ha⟩
        · exact ⟨0, 0, fun h' => absurd h' h⟩
      have HGO := Lib.hid hgo
      clear hgo
      refine wpIn_wide.1 (wpIn_rangeFunc_counted (F := Fence.wide) (n := 8) rfl (by omega) (gf := 44) (lb := #[.pointer (some ⟨Bl, 0, none⟩), .pointer (some ⟨Bl + 1, 0, none⟩)]) rfl trivial (enters_of Tryd.func44 (by kernel_rfl) rfl)
        (row := fun k => #[rowV gC oC 257 30 nc k]) (m := rowsN 30 nc) (T := [Bl, Bl + 1]) (fun _ => rfl) (by have := HS4.out; simp; omega) (rowsC_in 7 (by omega) gC oC nc kc Bl (Bl + 1) ac HGO.out HKC.out.1 HKC.out.2 (by omega) w4 HL4.out HN4.out)
        (fun k A => ∃ vb bl, PkMem W S B VB EB BB RB seq (.slice ac nc kc) (.slice ar nr kr) vb bl 0 A ∧ bl.length = doneR 30 nc k + k ∧ (1 ≤ k → Single seq cs rs → ∀ c, cs = [c] → bl[1]? = some c.2))
        (fun c A => c = .ret ∧ A.heap[VB]? = some (.cells #[.slice none 0 0] 57) ∧ A.heap[EB]? = some (.cells #[.int .i64 150] 30) ∧ Grow W A ∧ ¬ Single seq cs rs)
        (fun k A B' ⟨vb, bl, h1, h2⟩ ht => ⟨vb, bl, h1.keep (by rw [HSE4.out]; exact ht) (fun q hq => by have := HSL.out q hq; have := HWB.out; omega), h2⟩)
        (fun c A B' ⟨h1, h2, h3, h4, h5⟩ ht => by
          have h6 : ∀ q, q ∉ S → q < A.heap.size → B'.heap[q]? = A.heap[q]? := fun q hq hl => ht.block q hl (by rw [HSE4.out] at hq; exact hq)
          exact ⟨h1, (h6 VB HM4.out.out.2.1 (Array.getElem?_eq_some_iff.1 h2).1).trans h2, (h6 EB HM4.out.out.2.2.1 (Array.getElem?_eq_some_iff.1 h3).1).trans h3, Below.trans h4 (ht.below h4.size (fun q hq => by rw [← HSE4.out] at hq; have := HSL.out q hq; have := HWB.out; omega)), h5⟩)
        ⟨_, [], HM4.out, by rw [doneR_zero]; rfl, fun h => by omega⟩
        (fun k => { tmps := #[.agg #[.int .u32 (seq : Int), .slice ac nc kc, .slice ar nr kr], .pointer (some ⟨B, 0, none⟩), .pointer (some ⟨VB, 0, none⟩), .pointer (some ⟨EB, 0, none⟩), .int .i64 (sz : Int), .pointer (some ⟨BB, 0, none⟩), .pointer (some ⟨RB, 0, none⟩), rowV gC oC 257 30 nc k, undef,
          .agg #[.int .u32 (seq : Int), .slice ac nc kc, .slice ar nr kr], .bool true, .bool false, .pointer (some ⟨B, 1, none⟩), .slice ac nc kc, .int .i64 (nc : Int), .pointer (some ⟨B, 2, none⟩), .slice ar nr kr, .int .i64 (nr : Int), .int .i64 (sz : Int), .int .i64 (sz : Int), .bool false, .int .i64 (sz : Int), .slice (some ⟨G0, 0, none⟩) 0 sz, .pointer (some ⟨B, 1, none⟩), .slice ac nc kc,
          .func (.func 44) #[] #[.pointer (some ⟨Bl, 0, none⟩), .pointer (some ⟨Bl + 1, 0, none⟩)], rowV gC oC 257 30 nc k, undef, undef, undef, undef, undef, undef, undef, undef, undef, undef, undef, undef, undef, undef, undef, undef, undef, undef, undef, undef, undef, undef, undef, undef, undef, undef, undef, undef, undef, undef, undef, undef, undef, undef], defers := [] }) ?assign ?body ?done ?stop)
      case assign =>
        intro k A K hK
        gi_wp2
        exact hK
      case body =>
        rintro k A hk hA ⟨vb, bl, hm, hlen, hsg⟩
        have HM := Lib.hid hm
        have HLEN := Lib.hid hlen
        have HSG := Lib.hid hsg
        have hdl : doneR 30 nc k < nc := rowsN_done hk
        obtain ⟨d, hd⟩ : ∃ d, d = doneR 30 nc k := ⟨_, rfl⟩
        obtain ⟨m, hm'⟩ : ∃ m, m = min 30 (nc - d) := ⟨_, rfl⟩
        rw [← hd] at hdl HLEN
        have hm1 : 1 ≤ m := by omega
        have hm30 : m ≤ 30 := by omega
        have hmd : d + m ≤ nc := by omega
        have hrv : rowV gC oC 257 30 nc k = .slice (some ⟨gC, oC + d * 257, none⟩) m m := by unfold rowV; rw [← hd, ← hm']
        have hac := HGO.out (by omega)
        subst hac
        have HCS := Lib.hid (((HC.out.grow hm.grow).part d m m hmd))
        have hcl2 : ((cs.drop d).take m).length = m := by rw [List.length_take, List.length_drop, ← HNC.out]; omega
        have HKL := Lib.hid (show bl.length ≤ 1000 by
          have h1 := HLEN.out
          have h2 : rowsN 30 nc ≤ 300 := by unfold rowsN; omega
          omega)
        have HDN := Lib.hid (show doneR 30 nc (k + 1) = d + m by rw [doneR_succ (r := nc - d) (m := m) (by rw [hd]) hm', ← hd])
        have HSI := Lib.hid (show Single seq cs rs → k = 0 ∧ (cs.drop d).take m = cs from fun h => by
          obtain ⟨_, _, c, hc0, _⟩ := h
          have h1 := HNC.out
          rw [hc0] at h1
          have h1' : nc = 1 := h1
          have hd0 : d = 0 := by omega
          have hm0 : m = 1 := by omega
          have hk0 : k = 0 := by
            unfold doneR at hd
            rw [h1', hd0] at hd
            omega
          exact ⟨hk0, by rw [hd0, hm0, hc0]; rfl⟩)
        rw [hrv]
        obtain ⟨av, cv, hvb⟩ := BRow.len hm.row
        have HVB := Lib.hid hvb
        obtain ⟨nb, hnb⟩ : ∃ nb, nb = bl.length := ⟨_, rfl⟩
        rw [← hnb] at hvb
        subst hvb
        have r0 : A.cell? ⟨BB, 0, none⟩ = some (.slice av nb cv) := cell_at HM.out.bb 0
        obtain ⟨q0, _, _⟩ := cell3 HM.out.tr
        have HCP := Lib.hid (withCopies_ok HM.out.row HKL.out HCS.out seq HOK.out.1.1 HOK.out.1.2 (by rw [hcl2]; exact hm1) (by rw [hcl2]; exact hm30))
        have HHA := Lib.hid hA
        have HCL2 := Lib.hid hcl2
        clear hm hlen hsg hd hm' hrv hcl2 hnb hA hk hdl hmd
        gi_wp2_with fail
        refine ⟨trivial, (CallsIn.inRound _ (callsIn_wide.2 HCP.out)).mono ?_⟩
        intro e w6 hp
        obtain ⟨v', X, xs, er, rfl, hput, hxl, her, hpl⟩ := hp
        have HPM := Lib.hid (HM.out.mid hput)
        have HPP := Lib.hid (HM.out.put (er' := er) hput (fun q hq => by have := HSL.out q hq; have := HHA.out; omega))
        have HER := Lib.hid her
        have HPL := Lib.hid hpl
        have HXL := Lib.hid hxl
        obtain ⟨a6, c6, hv6⟩ := BRow.len hput.row
        obtain ⟨n6, hn6⟩ : ∃ n6, n6 = ((bl ++ [X]) ++ xs).length := ⟨_, rfl⟩
        rw [← hn6] at hv6
        subst hv6
        have HN6 := Lib.hid hn6
        have b0 : w6.cell? ⟨BB, 0, none⟩ = some (.slice av nb cv) := cell_at HPM.out.1 0
        have b1 : w6.frozen? ⟨BB, 0, none⟩ = false := frozen_at HPM.out.1 0
        have b2 : w6.cell? ⟨RB, 0, none⟩ = some (.int .i64 0) := cell_at HPM.out.2 0
        have b3 : w6.frozen? ⟨RB, 0, none⟩ = false := frozen_at HPM.out.2 0
        have b4 : ¬ BB = RB := by have := HBR.out; omega
        have b5 : ¬ RB = BB := fun h => b4 h.symm
        clear hput hxl her hpl hn6 r0 q0
        gi_upto_region 11 with (fail)
        generalize (w6.setCell ⟨BB, 0, none⟩ (.slice a6 n6 c6)).setCell ⟨RB, 0, none⟩ (.int .i64 er) = w7 at *
        clear b0 b1 b2 b3 b4 b5
        have HKEEP := Lib.hid (show ∀ q ∈ (w4.heap.size + 1) :: (w4.heap.size + 1 - 1) :: [Bl, Bl + 1], w7.heap[q]? = A.heap[q]? from fun q hq => HPP.out.2 q (by rw [HSE4.out]; simpa using hq))
        have r0 : w7.cell? ⟨RB, 0, none⟩ = some (.int .i64 er) := cell_at HPP.out.1.rb 0
        by_cases he : er = 0
        · subst he
          gi_wp2
          refine ⟨HKEEP.out, _, _, HPP.out.1, ?_, ?_⟩
          · rw [HDN.out]
            have h1 := HLEN.out
            have h2 := HXL.out
            have h3 := HCL2.out
            simp only [List.length_append, List.length_cons, List.length_nil]
            omega
          · intro hsi ca cb hc0
            obtain ⟨hk0, hcs0⟩ := HSI.out hsi
            obtain ⟨_, _, c', hc', _, _, hp1⟩ := hsi
            have hcc : c' = (ca, cb) := by rw [hc'] at hc0; simpa using hc0
            subst hcc
            have hxs := HPL.out (ca, cb) (by rw [hcs0]; exact hc') hp1
            have hbl : bl = [] := List.eq_nil_of_length_eq_zero (by have h1 := HLEN.out; have h3 := HCL2.out; rw [List.length_take, List.length_drop, hc'] at h3; simp only [List.length_cons, List.length_nil] at h3; omega)
            rw [hbl, hxs]
            rfl
        · have he0 : (er != 0) = true := by simpa using he
          have HF := Lib.hid (HPP.out.1.fail 150)
          have HNS := Lib.hid (show ¬ Single seq cs rs from fun h => by
            obtain ⟨_, hcs0⟩ := HSI.out h
            obtain ⟨_, _, c', hc', _⟩ := h
            exact he (HER.out (by rw [hcs0, hc']; rfl)))
          have v0 : w7.cell? ⟨VB, 0, none⟩ = some (.slice none 0 0) := cell_at HPP.out.1.v 0
          have v1 : w7.frozen? ⟨VB, 0, none⟩ = false := frozen_at HPP.out.1.v 0
          have e0 : w7.cell? ⟨EB, 0, none⟩ = some (.int .i64 0) := cell_at HPP.out.1.e 0
          have e1 : w7.frozen? ⟨EB, 0, none⟩ = false := frozen_at HPP.out.1.e 0
          gi_wp2
          exact ⟨fun q hq => (HF.out.2.2.2 q (by rw [HSE4.out]; simpa using hq)).trans (HKEEP.out q hq), rfl, HF.out.1, HF.out.2.1, HF.out.2.2.1, HNS.out⟩
      case done =>
        rintro A1 ⟨vb, bl, hm, hlen, hsg⟩ hdf
        have HM := Lib.hid hm
        have HLEN := Lib.hid hlen
        have HSG := Lib.hid hsg
        have HDF := Lib.hid hdf
        obtain ⟨q0, q1, q2⟩ := cell3 hm.tr
        clear hm hlen hsg hdf
        go_wp2_with fail
        refine (rowsI_ok ar nr kr _).mono ?_
        rintro e w5 ⟨rfl, hw5⟩
        have HW5 := Lib.hid hw5
        clear hw5 q0 q1 q2
        go_wp2_with fail
        obtain ⟨D1, hD1⟩ : ∃ D1, D1 = w4.heap.size := ⟨_, rfl⟩
        obtain ⟨Bm, hBm⟩ : ∃ Bm, Bm = A1.heap.size := ⟨_, rfl⟩
        have HS5 := Lib.hid (show w5.heap.size = Bm + 2 by rw [HW5.out, hBm]; simp)
        have HL5 := Lib.hid (show w5.heap[Bm]? = some (.cells #[.slice ar nr kr] 26) by rw [HW5.out, hBm]; exact heap_one _ _ _)
        have HN5 := Lib.hid (show w5.heap[Bm + 1]? = some (.cells #[.int .i64 60] 3) by rw [HW5.out, hBm]; exact heap_two _ _ _)
        have HG45 := Lib.hid (show Grow A1 w5 by rw [HW5.out]; exact (Grow.alloc _ _).trans (Grow.alloc _ _))
        have HD1 := Lib.hid (show D1 < Bm by rw [hD1, hBm]; exact (Array.getElem?_eq_some_iff.1 HDF.out).1)
        have HDL := Lib.hid (show RB < D1 by have h1 := HRBl.out; have h2 := HS4.out; omega)
        have HDF5 := Lib.hid (show w5.heap[D1]? = some (.deferred (some [])) by rw [hD1]; exact (HG45.out.block _ (Array.getElem?_eq_some_iff.1 HDF.out).1).trans HDF.out)
        rw [← hBm, ← hD1]
        obtain ⟨S2, hS2⟩ : ∃ S2, S2 = D1 :: (w5.heap.size + 1) :: w5.heap.size :: [Bm, Bm + 1] := ⟨_, rfl⟩
        have HSL2 := Lib.hid (show ∀ q ∈ S2, D1 ≤ q ∧ q ≤ w5.heap.size + 1 ∧ (q = D1 ∨ Bm ≤ q) from fun q hq => by
          rw [hS2] at hq
          have := HS5.out
          have := HD1.out
          simp at hq
          omega)
        have HSE5 := Lib.hid hS2
        have HWD := Lib.hid (show W.heap.size ≤ D1 by have h1 := HWB.out; have h2 := HS4.out; omega)
        have HM5 := Lib.hid (show PkMem W S2 B VB EB BB RB seq (.slice ac nc kc) (.slice ar nr kr) vb bl 0 w5 from
          (((HM.out.other [] (fun q hq hm => by cases hm) (by simp)).keep (Touch.of_below HG45.out) (by simp)).other S2 (fun q hq hm => by
              obtain ⟨h1, h2, h3⟩ := HSL2.out q hm
              obtain ⟨C, hk⟩ := GRow.lt (Row.g HM.out.row) hq
              have h4 := (Array.getElem?_eq_some_iff.1 hk).1
              rcases h3 with h3 | h3
              · rw [h3, hD1, HDF.out] at hk
                cases hk
              · omega)
            (by have h4 := HDL.out; have h5 := HM.out.own; refine ⟨?_, ?_, ?_, ?_, ?_⟩ <;> (intro hm; have := HSL2.out _ hm; omega))))
        have HLL := Lib.hid (show bl.length = nc + rowsN 30 nc by rw [HLEN.out]; unfold doneR rowsN; omega)
        have HSB := Lib.hid (show Single seq cs rs → ∀ c, cs = [c] → bl[1]? = some c.2 from fun h c hc => HSG.out (by have := HNC.out; rw [hc] at this; simp at this; rw [this]; unfold rowsN; omega) h c hc)
        have HSZ2 := Lib.hid (show nc + rowsN 30 nc + rowsN 60 nr + 1 = sz by rw [HSE.out]; unfold sizeN rowsN; omega)
        obtain ⟨L1, hL1⟩ : ∃ L1, L1 = bl.length := ⟨_, rfl⟩
        have HL1 := Lib.hid hL1
        clear hBm hS2 HW5 HM HG45 hL1 HLEN HSG HSZ HDF
        obtain ⟨gI, oI, hgo⟩ : ∃ gI oI, 0 < nr → ar = some ⟨gI, oI, none⟩ := by
          by_cases h : 0 < nr
          · obtain ⟨c0, hc0⟩ : ∃ c0, rs[0]? = some c0 := ⟨rs[0]'(by rw [← HNR.out]; exact h), by simp⟩
            obtain ⟨g, o, ha, _⟩ := HR.out.at_ hc0
            exact ⟨g, o, fun _ => ha⟩
          · exact ⟨0, 0, fun h' => absurd h' h⟩
        have HGI := Lib.hid hgo
        have HDD := Lib.hid (show D1 ≠ VB ∧ D1 ≠ EB ∧ D1 ∉ (w5.heap.size + 1) :: w5.heap.size :: [Bm, Bm + 1] by
          have h1 := HDL.out
          have h2 := HM5.out.own
          have h3 := HS5.out
          have h4 := HD1.out
          refine ⟨by omega, by omega, ?_⟩
          simp
          omega)
        have HTS := Lib.hid (show ∀ a b, Touch ((w5.heap.size + 1) :: w5.heap.size :: [Bm, Bm + 1]) a b → Touch S2 a b from fun a b ht => ht.mono (fun i hi => .inl (by rw [HSE5.out]; exact List.mem_cons_of_mem _ hi)))
        clear hgo
        refine wpIn_wide.1 (wpIn_rangeFunc_counted (F := Fence.wide) (n := 8) rfl (by omega) (gf := 47) (lb := #[.pointer (some ⟨Bm, 0, none⟩), .pointer (some ⟨Bm + 1, 0, none⟩)]) rfl trivial (enters_of Tryd.func47 (by kernel_rfl) rfl)
          (row := fun k => #[rowV gI oI 1 60 nr k]) (m := rowsN 60 nr) (T := [Bm, Bm + 1]) (fun _ => rfl) (by have := HS5.out; simp; omega) (rowsI_in 7 (by omega) gI oI nr kr Bm (Bm + 1) ar HGI.out HKR.out.1 HKR.out.2 (by omega) w5 HL5.out HN5.out)
          (fun k A => ∃ vb bl, PkMem W S2 B VB EB BB RB seq (.slice ac nc kc) (.slice ar nr kr) vb bl 0 A ∧ bl.length = L1 + k ∧ (Single seq cs rs → ∀ c, cs = [c] → bl[1]? = some c.2) ∧ A.heap[D1]? = some (.deferred (some [])))
          (fun c A => c = .ret ∧ A.heap[VB]? = some (.cells #[.slice none 0 0] 57) ∧ A.heap[EB]? = some (.cells #[.int .i64 150] 30) ∧ Grow W A ∧ ¬ Single seq cs rs ∧ A.heap[D1]? = some (.deferred (some [])))
          (fun k A B' ⟨vb, bl, h1, h2, h3, h4⟩ ht => ⟨vb, bl, h1.keep (HTS.out _ _ ht) (fun q hq => by have := HSL2.out q hq; have := HWD.out; omega), h2, h3, (ht.block _ (Array.getElem?_eq_some_iff.1 h4).1 HDD.out.2.2).trans h4⟩)
          (fun c A B' ⟨h1, h2, h3, h4, h5, h7⟩ ht => by
            have h6 : ∀ q, q ∉ S2 → q < A.heap.size → B'.heap[q]? = A.heap[q]? := fun q hq hl => (HTS.out _ _ ht).block q hl hq
            exact ⟨h1, (h6 VB HM5.out.out.2.1 (Array.getElem?_eq_some_iff.1 h2).1).trans h2, (h6 EB HM5.out.out.2.2.1 (Array.getElem?_eq_some_iff.1 h3).1).trans h3, Below.trans h4 ((HTS.out _ _ ht).below h4.size (fun q hq => by have := HSL2.out q hq; have := HWD.out; omega)), h5, (ht.block _ (Array.getElem?_eq_some_iff.1 h7).1 HDD.out.2.2).trans h7⟩)
          ⟨_, _, HM5.out, by rw [HL1.out]; rfl, HSB.out, HDF5.out⟩
          (fun k => { tmps := #[.agg #[.int .u32 (seq : Int), .slice ac nc kc, .slice ar nr kr], .pointer (some ⟨B, 0, none⟩), .pointer (some ⟨VB, 0, none⟩), .pointer (some ⟨EB, 0, none⟩), .int .i64 (sz : Int), .pointer (some ⟨BB, 0, none⟩), .pointer (some ⟨RB, 0, none⟩), undef, rowV gI oI 1 60 nr k,
            .agg #[.int .u32 (seq : Int), .slice ac nc kc, .slice ar nr kr], .bool true, .bool false, .pointer (some ⟨B, 1, none⟩), .slice ac nc kc, .int .i64 (nc : Int), .pointer (some ⟨B, 2, none⟩), .slice ar nr kr, .int .i64 (nr : Int), .int .i64 (sz : Int), .int .i64 (sz : Int), .bool false, .int .i64 (sz : Int), .slice (some ⟨G0, 0, none⟩) 0 sz, .pointer (some ⟨B, 1, none⟩), .slice ac nc kc,
            .func (.func 44) #[] #[.pointer (some ⟨Bl, 0, none⟩), .pointer (some ⟨Bl + 1, 0, none⟩)], undef, undef, undef, undef, undef, undef, undef, undef, undef, undef, undef, .pointer (some ⟨B, 2, none⟩), .slice ar nr kr,
            .func (.func 47) #[] #[.pointer (some ⟨Bm, 0, none⟩), .pointer (some ⟨Bm + 1, 0, none⟩)], rowV gI oI 1 60 nr k, undef, undef, undef, undef, undef, undef, undef, undef, undef, undef, undef, undef, undef, undef, undef, undef, undef, undef, undef, undef], defers := [] }) ?assign2 ?body2 ?done2 ?stop2)
        case assign2 =>
          intro k A K hK
          gi_wp2
          exact hK
        case body2 =>
          rintro k A hk hA ⟨vb, bl, hm, hlen, hsg, hdf⟩
          have HM := Lib.hid hm
          have HLEN := Lib.hid hlen
          have HDF := Lib.hid hdf
          have hdl : doneR 60 nr k < nr := rowsN_done60 hk
          have HKM := Lib.hid hk
          obtain ⟨d, hd⟩ : ∃ d, d = doneR 60 nr k := ⟨_, rfl⟩
          obtain ⟨m, hm'⟩ : ∃ m, m = min 60 (nr - d) := ⟨_, rfl⟩
          rw [← hd] at hdl
          have hm1 : 1 ≤ m := by omega
          have hm60 : m ≤ 60 := by omega
          have hmd : d + m ≤ nr := by omega
          have hrv : rowV gI oI 1 60 nr k = .slice (some ⟨gI, oI + d, none⟩) m m := by unfold rowV; rw [← hd, ← hm', Nat.mul_one]
          have hac := HGI.out (by omega)
          subst hac
          have HIS := Lib.hid (show ISee A (.slice (some ⟨gI, oI + d, none⟩) m m) ((rs.drop d).take m) by have h := (HR.out.grow hm.grow).part d m m hmd; rw [Nat.mul_one] at h; exact h)
          have hcl2 : ((rs.drop d).take m).length = m := by rw [List.length_take, List.length_drop, ← HNR.out]; omega
          have HKL := Lib.hid (show bl.length ≤ 1000 by
            have h1 := HLEN.out
            have h2 := HSZ2.out
            have h3 := HL1.out
            have h4 := HLL.out
            omega)
          have HNS := Lib.hid (show ¬ Single seq cs rs from fun h => by
            have h1 := HNR.out
            rw [h.2.1] at h1
            simp at h1
            omega)
          rw [hrv]
          obtain ⟨av, cv, hvb⟩ := BRow.len hm.row
          have HVB := Lib.hid hvb
          obtain ⟨nb, hnb⟩ : ∃ nb, nb = bl.length := ⟨_, rfl⟩
          rw [← hnb] at hvb
          subst hvb
          have r0 : A.cell? ⟨BB, 0, none⟩ = some (.slice av nb cv) := cell_at HM.out.bb 0
          obtain ⟨q0, _, _⟩ := cell3 HM.out.tr
          have HCP := Lib.hid (withRevokes_ok HM.out.row HKL.out HIS.out seq HOK.out.1.1 HOK.out.1.2 (by rw [hcl2]; exact hm1) (by rw [hcl2]; exact hm60))
          have HHA := Lib.hid hA
          clear hm hlen hsg hd hm' hrv hcl2 hnb hA hk hdl hmd hdf
          gi_wp2_with fail
          refine ⟨trivial, (CallsIn.inRound _ (callsIn_wide.2 HCP.out)).mono ?_⟩
          intro e w6 hp
          obtain ⟨v', X, er, rfl, hput, her⟩ := hp
          have HPM := Lib.hid (HM.out.mid hput)
          have HPP := Lib.hid (HM.out.put (er' := er) hput (fun q hq => by have := HSL2.out q hq; have := HHA.out; omega))
          obtain ⟨a6, c6, hv6⟩ := BRow.len hput.row
          obtain ⟨n6, hn6⟩ : ∃ n6, n6 = (bl ++ [X]).length := ⟨_, rfl⟩
          rw [← hn6] at hv6
          subst hv6
          have HN6 := Lib.hid hn6
          have b0 : w6.cell? ⟨BB, 0, none⟩ = some (.slice av nb cv) := cell_at HPM.out.1 0
          have b1 : w6.frozen? ⟨BB, 0, none⟩ = false := frozen_at HPM.out.1 0
          have b2 : w6.cell? ⟨RB, 0, none⟩ = some (.int .i64 0) := cell_at HPM.out.2 0
          have b3 : w6.frozen? ⟨RB, 0, none⟩ = false := frozen_at HPM.out.2 0
          have b4 : ¬ BB = RB := by have := HBR.out; omega
          have b5 : ¬ RB = BB := fun h => b4 h.symm
          clear hput her hn6 r0 q0
          gi_upto_region 16 with (fail)
          generalize (w6.setCell ⟨BB, 0, none⟩ (.slice a6 n6 c6)).setCell ⟨RB, 0, none⟩ (.int .i64 er) = w7 at *
          clear b0 b1 b2 b3 b4 b5
          have HKEEP := Lib.hid (show ∀ q ∈ D1 :: (w5.heap.size + 1) :: (w5.heap.size + 1 - 1) :: [Bm, Bm + 1], w7.heap[q]? = A.heap[q]? from fun q hq => HPP.out.2 q (by rw [HSE5.out]; simpa using hq))
          have r0 : w7.cell? ⟨RB, 0, none⟩ = some (.int .i64 er) := cell_at HPP.out.1.rb 0
          by_cases he : er = 0
          · subst he
            gi_wp2
            refine ⟨fun q hq => HKEEP.out q (List.mem_cons_of_mem _ hq), _, _, HPP.out.1, ?_, fun h => absurd h HNS.out, (HKEEP.out D1 (by simp)).trans HDF.out⟩
            have h1 := HLEN.out
            simp only [List.length_append, List.length_cons, List.length_nil]
            omega
          · have he0 : (er != 0) = true := by simpa using he
            have HF := Lib.hid (HPP.out.1.fail 150)
            have v0 : w7.cell? ⟨VB, 0, none⟩ = some (.slice none 0 0) := cell_at HPP.out.1.v 0
            have v1 : w7.frozen? ⟨VB, 0, none⟩ = false := frozen_at HPP.out.1.v 0
            have e0 : w7.cell? ⟨EB, 0, none⟩ = some (.int .i64 0) := cell_at HPP.out.1.e 0
            have e1 : w7.frozen? ⟨EB, 0, none⟩ = false := frozen_at HPP.out.1.e 0
            gi_wp2
            exact ⟨fun q hq => (HF.out.2.2.2 q (by rw [HSE5.out]; exact List.mem_cons_of_mem _ (by simpa using hq))).trans (HKEEP.out q (List.mem_cons_of_mem _ hq)), rfl, HF.out.1, HF.out.2.1, HF.out.2.2.1, HNS.out, (HF.out.2.2.2 D1 (by rw [HSE5.out]; simp)).trans ((HKEEP.out D1 (by simp)).trans HDF.out)⟩
        case stop2 =>
          rintro c B' ⟨rfl, h2, h3, h4, h5, h6⟩ hdf
          have HDF := Lib.hid hdf
          have H2 := Lib.hid h2
          have H3 := Lib.hid h3
          have H4 := Lib.hid h4
          have H5 := Lib.hid h5
          have H6 := Lib.hid h6
          have HDE := Lib.hid (show w5.heap.size ≠ D1 ∧ (w5.heap.size ≠ VB ∧ D1 ≠ VB) ∧ (w5.heap.size ≠ EB ∧ D1 ≠ EB) by
            have h1 := HM5.out.lt
            have h2 := HM5.out.own
            have h3 := HS5.out
            have h4 := HD1.out
            have h5 := HDD.out
            exact ⟨by omega, ⟨by omega, h5.1⟩, by omega, h5.2.1⟩)
          clear hdf h2 h3 h4 h5 h6
          refine wpIn_wide.2 ?_
          go_wp2
          exact pk_ret2 HDF.out H6.out HDE.out.1 HDE.out.2.1 HDE.out.2.2 rfl rfl (cell_at H2.out 0) (cell_at H3.out 0) (fun w' ht => ⟨_, 150, rfl, Below.trans H4.out (ht.below H4.out.size (by have h1 := HS5.out; have h2 := HWD.out; have h3 := HD1.out; simp; omega)), fun _ => rfl, fun h => absurd h H5.out, fun h => absurd h (by omega)⟩)
        case done2 =>
          rintro A2 ⟨vb, bl, hm, hlen, hsg, hdf1⟩ hdf
          have HM := Lib.hid hm
          have HDF1 := Lib.hid hdf1
          have HDF2 := Lib.hid hdf
          have HSG := Lib.hid hsg
          have HBL := Lib.hid (show bl.length + 1 = sz by rw [hlen, HL1.out, HLL.out]; exact HSZ2.out)
          have HD5 := Lib.hid (show w5.heap.size ≠ D1 ∧ (VB ≠ D1 ∧ VB ≠ w5.heap.size) ∧ (EB ≠ D1 ∧ EB ≠ w5.heap.size) ∧ (BB ≠ D1 ∧ BB ≠ w5.heap.size) ∧ (RB ≠ D1 ∧ RB ≠ w5.heap.size) by
            have h1 := HDL.out
            have h2 := HM5.out.own
            have h3 := HS5.out
            have h4 := HD1.out
            omega)
          obtain ⟨D2, hD2⟩ : ∃ D2, D2 = w5.heap.size := ⟨_, rfl⟩
          have HD2 := Lib.hid hD2
          rw [← hD2] at HDF2 HD5 ⊢
          have HM6 := Lib.hid (show PkMem W [D1, D2] B VB EB BB RB seq (.slice ac nc kc) (.slice ar nr kr) vb bl 0 A2 from
            HM.out.other [D1, D2] (fun q hq hmm => by
              have h := (HM.out.lo q hq).2
              rw [HSE5.out] at h
              simp at h hmm
              rw [hD2] at hmm
              omega) (by have h1 := HD5.out; have h2 := HM.out.own; have h3 := HDL.out; have h4 := HS5.out; have h5 := HD1.out; refine ⟨?_, ?_, ?_, ?_, ?_⟩ <;> (simp; omega)))
          clear hm hdf1 hdf hsg hlen hD2
          obtain ⟨av, cv, hvb⟩ := BRow.len HM6.out.row
          have HVB := Lib.hid hvb
          obtain ⟨nb, hnb⟩ : ∃ nb, nb = bl.length := ⟨_, rfl⟩
          rw [← hnb] at hvb
          subst hvb
          have r0 : A2.cell? ⟨BB, 0, none⟩ = some (.slice av nb cv) := cell_at HM6.out.bb 0
          obtain ⟨q0, _, _⟩ := cell3 HM6.out.tr
          have HCP := Lib.hid (withCommit_ok (HT.out.grow HM6.out.grow) HM6.out.row (by have h1 := HBL.out; omega) (by have h1 := HBL.out; omega) seq HOK.out.1.1 HOK.out.1.2)
          clear hnb
          go_wp2_with fail
          refine HCP.out.mono ?_
          intro e w6 hp
          obtain ⟨v', X, rfl, hput⟩ := hp
          have HPM := Lib.hid (HM6.out.mid hput)
          have HPP := Lib.hid (HM6.out.put (er' := 0) hput (fun q hq => by
            have h1 := (Array.getElem?_eq_some_iff.1 HDF1.out).1
            have h2 := (Array.getElem?_eq_some_iff.1 HDF2.out).1
            simp at hq
            omega))
          obtain ⟨a6, c6, hv6⟩ := BRow.len hput.row
          obtain ⟨n6, hn6⟩ : ∃ n6, n6 = (bl ++ [X]).length := ⟨_, rfl⟩
          rw [← hn6] at hv6
          subst hv6
          have HN6 := Lib.hid hn6
          have b0 : w6.cell? ⟨BB, 0, none⟩ = some (.slice av nb cv) := cell_at HPM.out.1 0
          have b1 : w6.frozen? ⟨BB, 0, none⟩ = false := frozen_at HPM.out.1 0
          have b2 : w6.cell? ⟨RB, 0, none⟩ = some (.int .i64 0) := cell_at HPM.out.2 0
          have b3 : w6.frozen? ⟨RB, 0, none⟩ = false := frozen_at HPM.out.2 0
          have b4 : ¬ BB = RB := by have := HBR.out; omega
          have b5 : ¬ RB = BB := fun h => b4 h.symm
          clear hput hn6 r0 q0
          go_upto_region 19 with fail
          generalize (w6.setCell ⟨BB, 0, none⟩ (.slice a6 n6 c6)).setCell ⟨RB, 0, none⟩ (.int .i64 0) = w7 at *
          clear b0 b1 b2 b3 b4 b5
          have HK7 := Lib.hid (show w7.heap[D1]? = some (.deferred (some [])) ∧ w7.heap[D2]? = some (.deferred (some [])) from ⟨(HPP.out.2 D1 (by simp)).trans HDF1.out, (HPP.out.2 D2 (by simp)).trans HDF2.out⟩)
          have r0 : w7.cell? ⟨RB, 0, none⟩ = some (.int .i64 0) := cell_at HPP.out.1.rb 0
          have r1 : w7.cell? ⟨BB, 0, none⟩ = some (.slice a6 n6 c6) := cell_at HPP.out.1.bb 0
          have v0 : w7.cell? ⟨VB, 0, none⟩ = some (.slice none 0 0) := cell_at HPP.out.1.v 0
          have v1 : w7.frozen? ⟨VB, 0, none⟩ = false := frozen_at HPP.out.1.v 0
          have e0 : w7.cell? ⟨EB, 0, none⟩ = some (.int .i64 0) := cell_at HPP.out.1.e 0
          have e1 : w7.frozen? ⟨EB, 0, none⟩ = false := frozen_at HPP.out.1.e 0
          have o := HPP.out.1.own
          have HV2 := Lib.hid ((Below.heap_setCell (w7.setCell ⟨VB, 0, none⟩ (.slice a6 n6 c6)) ⟨EB, 0, none⟩ (.int .i64 0) VB (by simp; omega)).trans (heap_set HPP.out.1.v 0 (.slice a6 n6 c6)))
          have HE2 := Lib.hid (heap_set ((Below.heap_setCell w7 ⟨VB, 0, none⟩ (.slice a6 n6 c6) EB (by simp; omega)).trans HPP.out.1.e) 0 (.int .i64 0))
          have HG2 := Lib.hid (show Grow W ((w7.setCell ⟨VB, 0, none⟩ (.slice a6 n6 c6)).setCell ⟨EB, 0, none⟩ (.int .i64 0)) from (HPP.out.1.grow.setCell (p := ⟨VB, 0, none⟩) (by simp; omega) _).setCell (p := ⟨EB, 0, none⟩) (by simp; omega) _)
          have HT2 := Lib.hid (show Touch [VB, EB] w7 ((w7.setCell ⟨VB, 0, none⟩ (.slice a6 n6 c6)).setCell ⟨EB, 0, none⟩ (.int .i64 0)) from (Touch.setCell (S := [VB, EB]) w7 (a := ⟨VB, 0, none⟩) (by simp) _).trans (Touch.setCell (S := [VB, EB]) _ (a := ⟨EB, 0, none⟩) (by simp) _) (fun i hi => .inl hi))
          clear o
          go_wp2_with fail
          generalize (w7.setCell ⟨VB, 0, none⟩ (.slice a6 n6 c6)).setCell ⟨EB, 0, none⟩ (.int .i64 0) = w8 at *
          have d1 : w8.heap[D1]? = some (.deferred (some [])) := (HT2.out.block D1 (Array.getElem?_eq_some_iff.1 HK7.out.1).1 (by have := HD5.out; simp; omega)).trans HK7.out.1
          have d2 : w8.heap[D2]? = some (.deferred (some [])) := (HT2.out.block D2 (Array.getElem?_eq_some_iff.1 HK7.out.2).1 (by have := HD5.out; simp; omega)).trans HK7.out.2
          rw [hD1] at d1
          refine pk_ret2 d2 d1 (by have := HD5.out; omega) (by have := HD5.out; omega) (by have := HD5.out; omega) rfl rfl (cell_at HV2.out 0) (cell_at HE2.out 0) (fun w' ht => ⟨_, 0, rfl, Below.trans HG2.out (ht.below HG2.out.size (by have h1 := HWD.out; have h2 := HS5.out; have h3 := HD1.out; have h4 := HD2.out; simp; omega)), fun h => absurd rfl h, fun _ => rfl, fun _ => ⟨HOK.out.1, bl ++ [X], ?_, ?_, ?_, ?_, ?_⟩⟩)
          · have hr := HPP.out.1.row
            have hlo := HPP.out.1.lo
            have n2 : 57 ≠ 34 := by decide
            have n3 : 30 ≠ 34 := by decide
            have hr8 := Row.kept hr HT2.out (fun q hq => by
              have e1 : q ≠ VB := fun e => n2 (Row.not_at hr hq (e ▸ HPP.out.1.v))
              have e2 : q ≠ EB := fun e => n3 (Row.not_at hr hq (e ▸ HPP.out.1.e))
              simp [e1, e2])
            refine ⟨Row.kept hr8 ht (fun q hq => ?_), fun q hq => (hlo q hq).1, ?_⟩
            · have h := (hlo q hq).2
              simp at h
              rw [hD1] at h
              simp
              omega
            · exact Below.trans HG2.out (ht.below HG2.out.size (by have h1 := HWD.out; have h2 := HS5.out; have h3 := HD1.out; have h4 := HD2.out; simp; omega))
          · rw [List.length_append, ← HNC.out, ← HNR.out, ← HSE.out]; exact HBL.out
          · rw [List.length_append]; have h1 := HBL.out; simp; omega
          · rw [List.length_append]; have h1 := HBL.out; simp; omega
          · intro h c hc
            have h1 := HSG.out h c hc
            rw [List.getElem?_append_left (List.getElem?_eq_some_iff.1 h1).1]
            exact h1
      case stop =>
        rintro c B' ⟨rfl, h2, h3, h4, h5⟩ hdf
        have HDF := Lib.hid hdf
        have H2 := Lib.hid h2
        have H3 := Lib.hid h3
        have H4 := Lib.hid h4
        have H5 := Lib.hid h5
        have HDD := Lib.hid (show w4.heap.size ≠ VB ∧ w4.heap.size ≠ EB by
          have h1 := HM4.out.lt
          have h2 := HM4.out.own
          omega)
        clear hdf h2 h3 h4 h5
        refine wpIn_wide.2 ?_
        go_wp2
        exact pk_ret1 HDF.out HDD.out.1 HDD.out.2 rfl rfl (cell_at H2.out 0) (cell_at H3.out 0) (fun w' ht => ⟨_, 150, rfl, Below.trans H4.out (ht.below H4.out.size (by have h1 := HS4.out; have h2 := HWB.out; simp; omega)), fun _ => rfl, fun h => absurd h H5.out, fun h => absurd h (by omega)⟩)
#print axioms pack_ok
end Go.Proofs.YtieknecbheeekaaDoor
