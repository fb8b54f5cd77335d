/- The document's cache: put of what is not there; Write; Back. -/
import Derived.Test.YtieknecbheeekaaK3
set_option linter.unusedVariables false
set_option linter.unusedSimpArgs false
namespace Go.Proofs.Ytieknecbheeekaa
open Go.RowKit Go.Maps

theorem touch_drewN (S : List Nat) (w : World) (n : Nat) : Touch S w (w.drewN n) := ⟨rfl, rfl, rfl, Nat.le_refl _, fun _ _ _ => rfl⟩
theorem grow_drewN (w : World) (n : Nat) : Grow w (w.drewN n) := (touch_drewN [] w n).below (Nat.le_refl _) (by simp)
theorem insF_yes (e : HE) {L : List HE} {i : Nat} {x : HE} (h : L[i]? = some x) (h1 : (insF e (L.take i)).2 = false) (h2 : e.b < x.b) : insF e (L.take (i + 1)) = ((insF e (L.take i)).1 ++ [e, x], true) := by
  rw [insF_take e h]; unfold insStep; rw [if_pos ⟨h1, h2⟩]
theorem insF_no (e : HE) {L : List HE} {i : Nat} {x : HE} (h : L[i]? = some x) (h1 : ¬ ((insF e (L.take i)).2 = false ∧ e.b < x.b)) : insF e (L.take (i + 1)) = ((insF e (L.take i)).1 ++ [x], (insF e (L.take i)).2) := by
  rw [insF_take e h]; unfold insStep; rw [if_neg h1]
theorem RCP.setL {w : World} {Q R : Nat} {T : List Nat} {d : DS} {L : List HE} {vl : Value} (h : RCP w Q R T d L vl) {v : Value} {L' : List HE} (hr : Row w 80 258 v (L'.map ec)) (hb : ∀ k, v.ownBlock = some k → k ≠ Q ∧ k ∉ T) : RCP (w.setCell ⟨Q, 1, none⟩ v) Q R T d L' v := by
  have ht : Touch [Q] w (w.setCell ⟨Q, 1, none⟩ v) := Touch.setCell w (by simp) _
  exact {
    obj := by rw [heap_set h.obj 1 _]; rfl
    row := hr.kept ht (fun k e => by simpa using (hb k e).1)
    ref := h.ref.kept ht (fun k hk hm => h.qT (List.mem_singleton.1 hm ▸ hk))
    qT := h.qT
    bw := hb }
set_option maxRecDepth 100000 in
set_option maxHeartbeats 8000000 in
theorem rput_new {w : World} {Q R : Nat} {V : List Nat} {d : DS} {L : List HE} (h : IsRC w Q R V d L) (hL : L.length ≤ 100000) (e : HE) (he : e.h.1.length = 256) (hn : ∀ x ∈ L, x.b ≠ e.b) :
    Calls Try.prog 26 #[.pointer (some ⟨Q, 0, none⟩), .agg (ec e).toArray] w (PutPost Q R V d (putL e L) w) := by
  have h1 := h.grow (Grow.alloc w (.cells (ec e).toArray 80))
  have HF := Lib.hid (rfind_any h1 (by omega) e.b)
  have HNO := Lib.hid hn
  have HLL := Lib.hid hL
  have HEL := Lib.hid (ec_length he)
  have HOB := Lib.hid (heap_alloc_last w (.cells (ec e).toArray 80))
  obtain ⟨BX, hBX⟩ : ∃ BX, BX = w.heap.size := ⟨_, rfl⟩
  have HBX := Lib.hid hBX
  have HE0 := Lib.hid (show (ec e).toArray[0]? = some (.int .i64 e.b) from rfl)
  have HCX := Lib.hid (show BX < (w.alloc (.cells (ec e).toArray 80)).heap.size ∧ (w.alloc (.cells (ec e).toArray 80)).heap[BX]? = some (.cells (ec e).toArray 80) by rw [hBX]; exact ⟨by simp, HOB.out⟩)
  have HG1 := Lib.hid (Grow.alloc w (.cells (ec e).toArray 80))
  have hz : (w.alloc (.cells (ec e).toArray 80)).cell? ⟨w.heap.size, 0, none⟩ = some (.int .i64 e.b) := (cell_at HOB.out 0).trans HE0.out
  have HH1 := Lib.hid h1
  have HSz := Lib.hid (show (Try.prog.info? 80).map (·.size) = some (ec e).toArray.size by rw [List.size_toArray, HEL.out]; exact sizeE)
  clear h h1 hn he hL
  generalize hea : (ec e).toArray = EA at *
  have HEA := Lib.hid hea
  clear hea
  go_enter Try.func26, Try.ntmps26
  go_wp2_with fail
  rw [← hBX] at hz ⊢
  generalize w.alloc (.cells EA 80) = W1 at *
  clear HOB hBX
  go_wp2_with fail
  refine HF.out.mono ?_
  rintro en w' ⟨hres, rfl⟩
  have hres2 : en = .returned (.int .i64 (-1)) := by
    rcases hres with ⟨j, y, hj, hy, h2⟩ | ⟨_, h2⟩
    · exact absurd hy (HNO.out y (List.mem_of_getElem? hj))
    · exact h2
  subst hres2
  clear hres
  have HZB := Lib.hid (show ∀ wr, Grow W1 wr → wr.cell? ⟨BX, 0, none⟩ = some (.int .i64 e.b) from fun wr hg => (hg.cell (p := ⟨BX, 0, none⟩) HCX.out.1).trans hz)
  have HZR := Lib.hid (show ∀ wr, Grow W1 wr → wr.heap[BX]? = some (.cells EA 80) from fun wr hg => (hg.block BX HCX.out.1).trans (HCX.out.2))
  obtain ⟨T, vl, hV, hp⟩ := HH1.out
  obtain ⟨a, cap, rfl⟩ := hp.len
  have HP := Lib.hid hp
  have HVV := Lib.hid hV
  obtain ⟨n, hn⟩ : ∃ n, n = L.length := ⟨_, rfl⟩
  have HN := Lib.hid hn
  have HCQ := Lib.hid (show ∀ wr, Grow W1 wr → wr.cell? ⟨Q, 1, none⟩ = some (.slice a n cap) from fun wr hg => (hg.cell (p := ⟨Q, 1, none⟩) (Array.getElem?_eq_some_iff.1 hp.obj).1).trans (by rw [hn]; exact cell_at hp.obj 1))
  have hn6 : n ≤ 100000 := by rw [hn]; exact HLL.out
  clear hp hV hn hz
  go_wp2_with fail
  go_loopw [5, 6, 7] (fun t5 t6 t7 wr => ∃ (i : Nat) (dn : Bool), t7 = .int .i64 (i : Int) ∧ t6 = .bool dn ∧ i ≤ n ∧ (∃ a5 k5 c5, t5 = .slice a5 k5 c5) ∧ Hid (GInv 80 258 W1 t5 ((insF e (L.take i)).1.map ec) wr) ∧ Hid (dn = (insF e (L.take i)).2)) (fun _ _ t7 _ => n - (intOf t7).toNat)
  case atStart => exact ⟨0, false, rfl, rfl, by omega, ⟨none, 0, 0, rfl⟩, Lib.hid (GInv.start _ _ (Grow.refl _)), Lib.hid rfl⟩
  case round =>
    obtain ⟨i, dn, rfl, rfl, hi, ⟨a5, k5, c5, rfl⟩, HI, HD⟩ := hrel
    have hcq := HCQ.out wr HI.out.grow
    by_cases hlt : i < n
    · have hil : i < L.length := by rw [← HN.out]; exact hlt
      obtain ⟨x, hx⟩ : ∃ x, L[i]? = some x := ⟨L[i], by simp [hil]⟩
      obtain ⟨g, rfl, _, hgl, hr⟩ := HP.out.at_ hx
      have HRX := Lib.hid (show ∀ wr', Grow W1 wr' → wr'.rangeAt g (i * 258) (ec x) from fun wr' hg => range_touch hr (Touch.of_below (S := []) hg) hgl (by simp))
      have HXX := Lib.hid hx
      have HXL := Lib.hid (show (ec x).length = 258 from HP.out.row.1 _ (List.mem_of_getElem? (show (L.map ec)[i]? = some (ec x) by rw [List.getElem?_map, hx]; rfl)))
      have x0 : wr.cell? ⟨g, i * 258, none⟩ = some (.int .i64 x.b) := by have := HRX.out wr HI.out.grow 0 _ rfl; rw [Nat.add_zero] at this; exact this
      have z0 := HZB.out wr HI.out.grow
      have b0 : (0 : Int) ≤ (i : Int) := by omega
      have b1 : (i : Int) < (n : Int) := by omega
      have HLE := Lib.hid (show ((insF e (L.take i)).1.map ec).length + 2 ≤ 1000000 by
        rw [List.length_map]
        have := insF_len e (L.take i)
        rw [List.length_take] at this
        omega)
      clear hr hil hx hgl
      by_cases hb : dn = false ∧ e.b < x.b
      · obtain ⟨rfl, hb⟩ := hb
        have d1 : decide (e.b < x.b) = true := by simpa using hb
        have HS := Lib.hid (insF_yes e HXX.out HD.out.symm hb)
        clear hb
        go_wp2_with fail
        go_quiet (fail)
        have HIq := Lib.hid (HI.out.later (grow_drewN wr nq))
        have HZQ := Lib.hid (HZR.out _ HIq.out.grow)
        clear hcq x0 z0
        generalize wr.drewN nq = wq at *
        go_upto_region 12 with (first
          | (refine wpList_load_row rfl 80 _ rfl BX rfl 80 EA (0, 0) _ HZQ.out Try.underlying80 rfl (by rw [HSz.out]) ?_)
          | (refine wpList_bs rfl 35 80 _ rfl Try.underlying35 (ec zeroE) 258 272 infoE zeroE_length (by omega) (by omega) (ec e) HEL.out (by rw [HEA.out]; rfl) ?_; intro wc gc hcl hgc; have HCC := Lib.hid hcl; have HIc := Lib.hid (HIq.out.later hgc); clear hcl hgc)
          | (at_builtin; refine wpList_append_row rfl _ _ 35 rfl 80 (ec zeroE) 258 272 Try.underlying35 infoE zeroE_length (by omega) (.slice a5 k5 c5) _ rfl HIc.out.row ⟨gc, 0, none⟩ 1 (ec e) rfl HEL.out HCC.out (ec_one _) (by have := HLE.out; omega) (by omega) ?_; intro v' wa happ htch))
        have HI2 := Lib.hid (HIc.out.app happ htch)
        clear happ htch HIc HIq HCC HI
        obtain ⟨a6, c6, rfl⟩ := HI2.out.len
        have hcq2 := HCQ.out wa HI2.out.grow
        have HRQ := Lib.hid (HRX.out wa HI2.out.grow)
        have HLE2 := Lib.hid (show ((insF e (L.take i)).1.map ec ++ [ec e]).length + 1 ≤ 1000000 by rw [List.length_append]; have := HLE.out; simp only [List.length_cons, List.length_nil]; omega)
        generalize hka : ((insF e (L.take i)).1.map ec ++ [ec e]).length = ka at *
        have HKA := Lib.hid hka
        clear hka
        generalize wa = wb at *
        go_wp2_with (first
          | (refine wpList_load_mid rfl 80 _ rfl g (i * 258) rfl (ec x) _ HRQ.out Try.underlying80 rfl (by rw [HXL.out]; exact sizeE) ?_)
          | (refine wpList_bs rfl 35 80 _ rfl Try.underlying35 (ec zeroE) 258 272 infoE zeroE_length (by omega) (by omega) (ec x) HXL.out rfl ?_; intro wc gc hcl hgc; have HCC := Lib.hid hcl; have HIc := Lib.hid (HI2.out.later hgc); clear hcl hgc)
          | (at_builtin; refine wpList_append_row rfl _ _ 35 rfl 80 (ec zeroE) 258 272 Try.underlying35 infoE zeroE_length (by omega) (.slice a6 ka c6) _ rfl HIc.out.row ⟨gc, 0, none⟩ 1 (ec x) rfl HXL.out HCC.out (ec_one _) (by rw [HKA.out]; exact HLE2.out) (by omega) ?_; intro v' wa happ htch))
        have HI3 := Lib.hid (show GInv 80 258 W1 v' ((insF e (L.take (i + 1))).1.map ec) wa by have := HIc.out.app happ htch; rw [HS.out]; simpa using this)
        clear happ htch HIc HI2 HCC
        obtain ⟨a7, c7, rfl⟩ := HI3.out.len
        go_roundw
        case rel => exact ⟨i + 1, true, by go_num, rfl, by omega, ⟨_, _, _, rfl⟩, HI3, Lib.hid (by rw [HS.out])⟩
        case measure => simp [intOf]; omega
      · cases dn with
        | true =>
          have HS := Lib.hid (insF_no e HXX.out (fun c => by rw [← HD.out] at c; exact absurd c.1 (by simp)))
          clear hb
          go_wp2_with fail
          go_quiet (fail)
          have HIq := Lib.hid (HI.out.later (grow_drewN wr nq))
          have HRQ := Lib.hid (HRX.out _ HIq.out.grow)
          have hcq2 := HCQ.out _ HIq.out.grow
          clear hcq x0 z0
          generalize wr.drewN nq = wq at *
          go_wp2_with (first
            | (refine wpList_load_mid rfl 80 _ rfl g (i * 258) rfl (ec x) _ HRQ.out Try.underlying80 rfl (by rw [HXL.out]; exact sizeE) ?_)
            | (refine wpList_bs rfl 35 80 _ rfl Try.underlying35 (ec zeroE) 258 272 infoE zeroE_length (by omega) (by omega) (ec x) HXL.out rfl ?_; intro wc gc hcl hgc; have HCC := Lib.hid hcl; have HIc := Lib.hid (HIq.out.later hgc); clear hcl hgc)
            | (at_builtin; refine wpList_append_row rfl _ _ 35 rfl 80 (ec zeroE) 258 272 Try.underlying35 infoE zeroE_length (by omega) (.slice a5 k5 c5) _ rfl HIc.out.row ⟨gc, 0, none⟩ 1 (ec x) rfl HXL.out HCC.out (ec_one _) (by have := HLE.out; omega) (by omega) ?_; intro v' wa happ htch))
          have HI3 := Lib.hid (show GInv 80 258 W1 v' ((insF e (L.take (i + 1))).1.map ec) wa by have := HIc.out.app happ htch; rw [HS.out]; simpa using this)
          clear happ htch HIc HIq HCC HI
          obtain ⟨a7, c7, rfl⟩ := HI3.out.len
          go_roundw
          case rel => exact ⟨i + 1, true, by go_num, rfl, by omega, ⟨_, _, _, rfl⟩, HI3, Lib.hid (by rw [HS.out]; exact HD.out)⟩
          case measure => simp [intOf]; omega
  
        | false =>
          have d1 : decide (e.b < x.b) = false := by simpa using hb
          have HB := Lib.hid hb
          have HS := Lib.hid (insF_no e HXX.out (fun c => HB.out ⟨rfl, c.2⟩))
          clear hb
          go_wp2_with fail
          go_quiet (fail)
          have HIq := Lib.hid (HI.out.later (grow_drewN wr nq))
          have HRQ := Lib.hid (HRX.out _ HIq.out.grow)
          have hcq2 := HCQ.out _ HIq.out.grow
          clear hcq x0 z0
          generalize wr.drewN nq = wq at *
          go_wp2_with (first
            | (refine wpList_load_mid rfl 80 _ rfl g (i * 258) rfl (ec x) _ HRQ.out Try.underlying80 rfl (by rw [HXL.out]; exact sizeE) ?_)
            | (refine wpList_bs rfl 35 80 _ rfl Try.underlying35 (ec zeroE) 258 272 infoE zeroE_length (by omega) (by omega) (ec x) HXL.out rfl ?_; intro wc gc hcl hgc; have HCC := Lib.hid hcl; have HIc := Lib.hid (HIq.out.later hgc); clear hcl hgc)
            | (at_builtin; refine wpList_append_row rfl _ _ 35 rfl 80 (ec zeroE) 258 272 Try.underlying35 infoE zeroE_length (by omega) (.slice a5 k5 c5) _ rfl HIc.out.row ⟨gc, 0, none⟩ 1 (ec x) rfl HXL.out HCC.out (ec_one _) (by have := HLE.out; omega) (by omega) ?_; intro v' wa happ htch))
          have HI3 := Lib.hid (show GInv 80 258 W1 v' ((insF e (L.take (i + 1))).1.map ec) wa by have := HIc.out.app happ htch; rw [HS.out]; simpa using this)
          clear happ htch HIc HIq HCC HI
          obtain ⟨a7, c7, rfl⟩ := HI3.out.len
          go_roundw
          case rel => exact ⟨i + 1, false, by go_num, rfl, by omega, ⟨_, _, _, rfl⟩, HI3, Lib.hid (by rw [HS.out]; exact HD.out)⟩
          case measure => simp [intOf]; omega
  
    · obtain rfl : n = i := by omega
      have hbwv := HP.out.bw
      have HIn := Lib.hid (show GInv 80 258 W1 (.slice a5 k5 c5) ((insF e L).1.map ec) wr by have := HI.out; rw [HN.out, List.take_length] at this; exact this)
      have HDn := Lib.hid (show dn = (insF e L).2 by have := HD.out; rw [HN.out, List.take_length] at this; exact this)
      have HLE := Lib.hid (show ((insF e L).1.map ec).length + 1 ≤ 1000000 by rw [List.length_map]; have := insF_len e L; have := HLL.out; omega)
      clear HI HD hbwv
      cases dn with
      | true =>
        have HIf := Lib.hid (show GInv 80 258 W1 (.slice a5 k5 c5) ((putL e L).map ec) wr by have := HIn.out; unfold putL; rw [← HDn.out, if_pos rfl, List.append_nil]; exact this)
        clear HIn
        have HP2 := Lib.hid (HP.out.kept (Touch.of_below (S := []) HIf.out.grow) (by simp))
        have hfq := frozen_at HP2.out.obj 1
        have HR2 := Lib.hid (HP2.out.setL HIf.out.row (fun k hk => ⟨fun c => by have := HIf.out.lo k hk; have := HP.out.lt Q (by simp); omega, fun hm => by have := HIf.out.lo k hk; have := HP.out.lt k (by simp [hm]); omega⟩))
        have HQL := Lib.hid (show Q ∈ V by rw [HVV.out]; simp)
        have HLO := Lib.hid HIf.out.lo
        have HGF := Lib.hid (Grow.trans HG1.out HIf.out.grow)
        have HTF := Lib.hid (show Touch V w (wr.setCell ⟨Q, 1, none⟩ (.slice a5 k5 c5)) from (Touch.of_below HGF.out).trans (Touch.setCell (S := [Q]) wr (by simp) _) (fun k hk => .inl (by rw [List.mem_singleton.1 hk]; exact HQL.out)))
        clear HIf
        go_wp2_with fail
        go_end0
        refine ⟨⟨_, rfl⟩, Q :: ((Value.slice a5 k5 c5).ownBlock.toList ++ T), ⟨T, _, rfl, HR2.out⟩, HTF.out, ?_⟩
        intro k hk
        simp only [List.mem_cons, List.mem_append, Option.mem_toList] at hk
        rcases hk with rfl | hk | hk
        · exact .inl HQL.out
        · exact .inr (Nat.le_trans HG1.out.size (HLO.out k hk))
        · exact .inl (by rw [HVV.out]; simp [hk])
      | false =>
        have HZQ := Lib.hid (HZR.out _ HIn.out.grow)
        go_upto_region 14 with (fail)
        clear hcq
        go_upto_region 15 with (first
          | (refine wpList_load_row rfl 80 _ rfl BX rfl 80 EA (0, 0) _ HZQ.out Try.underlying80 rfl (by rw [HSz.out]) ?_)
          | (refine wpList_bs rfl 35 80 _ rfl Try.underlying35 (ec zeroE) 258 272 infoE zeroE_length (by omega) (by omega) (ec e) HEL.out (by rw [HEA.out]; rfl) ?_; intro wc gc hcl hgc; have HCC := Lib.hid hcl; have HIc := Lib.hid (HIn.out.later hgc); clear hcl hgc)
          | (at_builtin; refine wpList_append_row rfl _ _ 35 rfl 80 (ec zeroE) 258 272 Try.underlying35 infoE zeroE_length (by omega) (.slice a5 k5 c5) _ rfl HIc.out.row ⟨gc, 0, none⟩ 1 (ec e) rfl HEL.out HCC.out (ec_one _) (by have := HLE.out; omega) (by omega) ?_; intro v' wa happ htch))
        have HIf := Lib.hid (show GInv 80 258 W1 v' ((putL e L).map ec) wa by have := HIc.out.app happ htch; unfold putL; rw [← HDn.out, if_neg (by simp)]; simpa using this)
        clear happ htch HIc HIn HCC
        obtain ⟨a7, c7, rfl⟩ := HIf.out.len
        have hcq := HCQ.out wa HIf.out.grow
        generalize ((putL e L).map ec).length = ka at *
        generalize wa = wb at *
        have HP2 := Lib.hid (HP.out.kept (Touch.of_below (S := []) HIf.out.grow) (by simp))
        have hfq := frozen_at HP2.out.obj 1
        have HR2 := Lib.hid (HP2.out.setL HIf.out.row (fun k hk => ⟨fun c => by have := HIf.out.lo k hk; have := HP.out.lt Q (by simp); omega, fun hm => by have := HIf.out.lo k hk; have := HP.out.lt k (by simp [hm]); omega⟩))
        have HQL := Lib.hid (show Q ∈ V by rw [HVV.out]; simp)
        have HLO := Lib.hid HIf.out.lo
        have HGF := Lib.hid (Grow.trans HG1.out HIf.out.grow)
        have HTF := Lib.hid (show Touch V w (wb.setCell ⟨Q, 1, none⟩ (.slice a7 ka c7)) from (Touch.of_below HGF.out).trans (Touch.setCell (S := [Q]) wb (by simp) _) (fun k hk => .inl (by rw [List.mem_singleton.1 hk]; exact HQL.out)))
        clear HIf
        go_wp2_with fail
        go_end0
        refine ⟨⟨_, rfl⟩, Q :: ((Value.slice a7 ka c7).ownBlock.toList ++ T), ⟨T, _, rfl, HR2.out⟩, HTF.out, ?_⟩
        intro k hk
        simp only [List.mem_cons, List.mem_append, Option.mem_toList] at hk
        rcases hk with rfl | hk | hk
        · exact .inl HQL.out
        · exact .inr (Nat.le_trans HG1.out.size (HLO.out k hk))
        · exact .inl (by rw [HVV.out]; simp [hk])
#print axioms rput_new
end Go.Proofs.Ytieknecbheeekaa
