/- slices.Collect over commit.actions: the walk. -/
import Derived.Test.YtieknecbheeekaaDoorR4
set_option linter.unusedVariables false
set_option linter.unusedSimpArgs false
namespace Go.Proofs.YtieknecbheeekaaDoor
open Go.RowKit Go.Maps Go.Shelf
attribute [local go_sem] Oper.semAt_some
/-- the first k of what is gone through, in a row of its own -/
def AIs (Bs D : Nat) (W : World) (l : List (Nat × Int × Blk)) (A : World) : Prop := ∃ v, A.heap[Bs]? = some (.cells #[v] 29) ∧ Row A 36 258 v (l.map acell) ∧ Grow W A ∧ (∀ q, v.ownBlock = some q → D < q)
theorem AIs.keep {Bs D : Nat} {W : World} {l : List (Nat × Int × Blk)} {A B : World} {S : List Nat} (h : AIs Bs D W l A) (ht : Touch S A B) (h1 : Bs ∉ S) (h2 : ∀ q ∈ S, q ≤ D) (h3 : ∀ q ∈ S, W.heap.size ≤ q ∨ B.heap[q]? = A.heap[q]?) : AIs Bs D W l B := by
  obtain ⟨v, hb, hr, hg, ho⟩ := h
  refine ⟨v, (ht.block Bs (Array.getElem?_eq_some_iff.1 hb).1 h1).trans hb, hr.kept ht (fun g hg hm => by have := ho g hg; have := h2 g hm; omega), Below.trans hg (show Below W.heap.size A B from ⟨ht.os, ht.tape, ht.output, ht.size, fun k hk => ?_⟩), ho⟩
  by_cases hm : k ∈ S
  · rcases h3 k hm with h | h
    · omega
    · exact h
  · exact ht.block k (by have := hg.size; omega) hm
theorem as_ret {n D : Nat} {args : Array Value} {R : Ending → World → Prop} {tmps : Array Value} {w : World} {v : Value} (hD : w.heap[D]? = some (.deferred (some []))) (hp : tmps.getD 4 undef = v)
    (h : ∀ w', Touch [D] w w' → R (.returned v) w') : bodyPostM Fence.wide n Tryd.prog Tryd.f32 R .ret ⟨tmps, [{ target := .collected D, args := args }]⟩ w :=
  ⟨by simp, .inl ⟨_, _, rfl, run_takeDeferred hD, ⟨_, results_tmp (by kernel_rfl) _ _ _, by rw [hp]; exact h _ (Touch.putObj _ (by simp) _)⟩⟩⟩
set_option maxRecDepth 100000 in
set_option maxHeartbeats 4000000 in
theorem appendSeq_ok {W : World} {lb : Array Value} {L : List (Nat × Int × Blk)} {T : List Nat} (hT : ∀ q ∈ T, q < W.heap.size) (hseq : CountedQ Fence.wide 7 Tryd.prog 33 lb (rowA L) L.length T W) (hb : ∀ x ∈ L, x.2.2.length = 256) (hl : L.length ≤ 10000) :
    Calls Tryd.prog 32 #[.slice none 0 0, .func (.func 33) #[] lb] W fun e w' => ∃ v, e = .returned v ∧ Row w' 36 258 v (L.map acell) ∧ Grow W w' ∧ (∀ q, v.ownBlock = some q → W.heap.size ≤ q) := by
  have HT := Lib.hid hT
  have HSQ := Lib.hid hseq
  have HB := Lib.hid hb
  have HL := Lib.hid hl
  clear hT hseq hb hl
  refine (callsIn_wide (n := 8)).1 ?_
  refine callsIn_of_wp_marks Tryd.func32 rfl trivial (wpIn_wide.2 ?_) rfl
  simp only [Tryd.ntmps32, List.size_toArray, List.length_cons, List.length_nil, Nat.reduceAdd, Nat.reduceSub, Array.replicate_succ, Array.replicate_zero, List.push_toArray, List.append_toArray, List.nil_append, List.cons_append]
  go_upto_region 1 with fail
  obtain ⟨B, hB⟩ : ∃ B, B = W.heap.size := ⟨_, rfl⟩
  have HB1 := Lib.hid (show (W.alloc (.cells #[.slice none 0 0] 29)).heap[B]? = some (.cells #[.slice none 0 0] 29) by rw [hB]; exact World.alloc_heap_new W _)
  have HG1 := Lib.hid (show Grow W (W.alloc (.cells #[.slice none 0 0] 29)) from Grow.alloc _ _)
  have HS1 := Lib.hid (show (W.alloc (.cells #[.slice none 0 0] 29)).heap.size = B + 1 by rw [World.size_alloc, hB])
  rw [← hB]
  generalize W.alloc (.cells #[.slice none 0 0] 29) = w1 at *
  have HBW := Lib.hid hB
  clear hB
  go_wp2_with fail
  have HD := Lib.hid (show w1.heap.size = B + 1 from HS1.out)
  obtain ⟨ib, hib, hx0, hx1, hx2⟩ := info_parts info36
  have hz := zero36
  have HZ := Lib.hid (show (acell (0, 0, zeroB)).toArray.size = 258 by rw [List.size_toArray]; exact acell_len zeroB_len)
  obtain ⟨Z, hZ⟩ : ∃ Z, Z = (acell (0, 0, zeroB)).toArray := ⟨_, rfl⟩
  rw [← hZ] at hz HZ hx0
  have HIB := Lib.hid hib
  have HX0 := Lib.hid hx0
  clear hZ hib hx0
  refine wpIn_wide.1 (wpIn_rangeFunc_boxed (F := Fence.wide) (n := 8) rfl (by omega) (gf := 33) (lb := lb) rfl trivial (enters_of Tryd.func33 (by kernel_rfl) rfl)
    (row := rowA L) (m := L.length) (T := T) (fun _ => rfl) (fun q hq => by have := HT.out q hq; have := HS1.out; have := HBW.out; omega) (HSQ.out.later (Touch.of_below HG1.out))
    (fun k A => AIs B (w1.heap.size + 1) W (L.take k) A) (fun c A => False)
    (fun k A B' h ht => h.keep ht (by have := HS1.out; simp; omega) (fun q hq => by simp at hq; omega) (fun q hq => by simp at hq; have := HS1.out; have := HBW.out; omega))
    (fun c A B' h ht => h.elim)
    ⟨_, HB1.out, rowNil _ _ _, HG1.out, fun q hq => by cases hq⟩
    (fun k b => { tmps := #[.slice none 0 0, .func (.func 33) #[] lb, .pointer (some ⟨B, 0, none⟩), undef, .slice none 0 0, .pointer (some ⟨b, 0, none⟩), .func (.func 33) #[] lb, rvA L k, undef, undef, undef, undef, undef], defers := [] })
    (fun k => .cells (match L[k]? with | none => #[] | some x => (acell x).toArray) 36) ?assign ?body ?done ?stop)
  case assign =>
    intro k A K hk hK
    obtain ⟨x, hx⟩ : ∃ x, L[k]? = some x := ⟨L[k]'hk, by simp⟩
    have hxl := HB.out x (List.mem_of_getElem? hx)
    rw [rowA_at hx]
    simp only [rvA_at hx, hx] at hK
    unfold actV at hK ⊢
    obtain ⟨AX, hAX⟩ : ∃ AX, AX = (acell x).toArray := ⟨_, rfl⟩
    rw [← hAX] at hK ⊢
    have HAs := Lib.hid (show AX.size = 258 by rw [hAX, List.size_toArray]; exact acell_len hxl)
    have HA1 := Lib.hid (show AX.all (·.oneCell') = true by rw [hAX]; exact all_oneCell_toArray (acell_one _))
    have HK := Lib.hid hK
    clear hAX hK hx hxl hk
    gi_wp2_with (refine wpListIn_via1R _ (by intro c h; cases h) (fun _ h => wpList_store_row rfl 36 _ _ rfl A.heap.size AX rfl rfl 36 Z (heap_alloc_last _ _) (by rw [HAs.out]; exact size36) (by rw [HAs.out]; exact HZ.out) HA1.out h) ?_)
    rw [World.setRow_alloc_new]
    exact HK.out
  case body =>
    rintro k b A hk hbs hob ⟨v, h1, h2, h3, h4⟩
    obtain ⟨x, hx⟩ : ∃ x, L[k]? = some x := ⟨L[k]'hk, by simp⟩
    have hxl := HB.out x (List.mem_of_getElem? hx)
    simp only [rvA_at hx, hx] at hob ⊢
    obtain ⟨av, cv, hv⟩ := Row.len h2
    obtain ⟨kv, hkv⟩ : ∃ kv, kv = ((L.take k).map acell).length := ⟨_, rfl⟩
    rw [← hkv] at hv
    subst hv
    obtain ⟨AX, hAX⟩ : ∃ AX, AX = (acell x).toArray := ⟨_, rfl⟩
    rw [← hAX] at hob
    have HAs := Lib.hid (show AX.size = 258 by rw [hAX, List.size_toArray]; exact acell_len hxl)
    have HBS := Lib.hid (show ∀ w : World, (Instr.buildSlice 29 1 #[(0, .agg AX)]).run Tryd.prog w = .ok (.slice (some ⟨w.heap.size, 0, none⟩) 1 1) (w.alloc (.cells (acell x).toArray 36)) from fun w => by rw [hAX]; exact buildSlice_act x hxl w)
    have HXL := Lib.hid (acell_len hxl)
    have HKL := Lib.hid (show ((L.take k).map acell).length + 1 ≤ 1000000 by rw [List.length_map, List.length_take]; have := HL.out; omega)
    have HTK := Lib.hid (show (L.take (k + 1)).map acell = (L.take k).map acell ++ [acell x] by rw [List.take_add_one, hx]; simp)
    have HOB := Lib.hid hob
    have HBB := Lib.hid hbs
    have H1 := Lib.hid h1
    have H2 := Lib.hid h2
    have H3 := Lib.hid h3
    have H4 := Lib.hid h4
    have HWA := Lib.hid (show B < A.heap.size from (Array.getElem?_eq_some_iff.1 h1).1)
    have c0 := cell_at h1 0
    clear hAX hob hx hxl hbs h1 h2 h3 h4 hkv
    gi_wp2_with (first | (refine wpListIn_via1R _ (by intro c h; cases h) (fun _ h => wpList_load_row rfl 36 _ rfl b rfl 36 AX (0, 0) _ HOB.out Tryd.underlying36 rfl (by rw [HAs.out]; exact size36) h) ?_) | (refine wpListIn_via1R _ (by intro c h; cases h) (fun _ h => wpList_buildSlice rfl 29 1 _ rfl (by simp only [List.map_toArray, List.map_cons, List.map_nil]; exact HBS.out _) h) ?_) |
      (refine wpListIn_viaRV _ (by intro c h; cases h) (fun v' w' => AppAtE 36 258 (A.alloc (.cells (acell x).toArray 36)) (.slice av kv cv) ((L.take k).map acell ++ [acell x]) v' w' ∧ Touch (ownL (.slice av kv cv)) (A.alloc (.cells (acell x).toArray 36)) w') (fun Q h => wpList_append_row rfl _ _ 29 rfl 36 ib (.agg Z) 258 272 Tryd.underlying29 HIB.out HX0.out hx1 hx2 HZ.out (by omega) (.slice av kv cv) ((L.take k).map acell) rfl (H2.out.kept (Touch.alloc [] A _) (by simp)) _ 1 (acell x) rfl HXL.out (new_cells _ _ _) (acell_one x) HKL.out (by omega) (fun v' w' h1 h2 => h v' w' ⟨h1, h2⟩)) ?_
       rintro v' wa ⟨happ, htch⟩
       have HAPP := Lib.hid happ
       have HTCH := Lib.hid htch
       have HNB := Lib.hid (show B ∉ ownL (.slice av kv cv) from fun hm => by have := H4.out _ (ownL_mem.1 hm); have := HS1.out; omega)
       have HCB := Lib.hid (show wa.heap[B]? = some (.cells #[.slice av kv cv] 29) from (htch.block B (by have := HWA.out; simp; omega) HNB.out).trans (((Touch.alloc [] A (.cells (acell x).toArray 36)).block B HWA.out (by simp)).trans H1.out))
       have c9 := cell_at HCB.out 0
       have f9 := frozen_at HCB.out 0
       obtain ⟨a9, k9, hv9⟩ := Row.len happ.1
       obtain ⟨n9, hn9⟩ : ∃ n9, n9 = ((L.take k).map acell ++ [acell x]).length := ⟨_, rfl⟩
       rw [← hn9] at hv9
       subst hv9
       clear happ htch hn9 c0))
    have HOW := Lib.hid (show ∀ q, (Value.slice a9 n9 k9).ownBlock = some q → w1.heap.size + 1 < q from fun q hq => by
      rcases HAPP.out.2 with h | ⟨g, hg, hl⟩
      · exact H4.out q (h ▸ hq)
      · rw [hg] at hq
        cases hq
        have h1 := HBB.out
        have h2 := (Array.getElem?_eq_some_iff.1 HOB.out).1
        simp only [World.size_alloc] at hl
        omega)
    have HSZ := Lib.hid (show w1.heap.size + 1 < A.heap.size by have h1 := HBB.out; have h2 := (Array.getElem?_eq_some_iff.1 HOB.out).1; omega)
    have HST := Lib.hid (show Touch [B] wa (wa.setCell ⟨B, 0, none⟩ (.slice a9 n9 k9)) from Touch.setCell wa (by simp) _)
    have HAL := Lib.hid (show Touch [] A (A.alloc (.cells (acell x).toArray 36)) from Touch.alloc [] A _)
    have HSA := Lib.hid (show (A.alloc (.cells (acell x).toArray 36)).heap.size = A.heap.size + 1 from World.size_alloc _ _)
    have HCB2 := Lib.hid (heap_set HCB.out 0 (.slice a9 n9 k9))
    have HHH := HTCH.out
    generalize A.alloc (.cells (acell x).toArray 36) = wA at *
    refine ⟨fun q hq => ?_, ⟨.slice a9 n9 k9, HCB2.out, ?_, ?_, HOW.out⟩⟩
    · have hq2 : q ≠ B ∧ q ≤ w1.heap.size + 1 := by
        simp only [List.mem_cons] at hq
        have h1 := HS1.out
        rcases hq with hm | hm | hm
        · omega
        · omega
        · have := HT.out _ hm; have := HBW.out; omega
      have h1 := HS1.out
      have h2 := HSZ.out
      have h3 := HSA.out
      exact (HST.out.block q (by have := HTCH.out.size; omega) (by simp [hq2.1])).trans ((HTCH.out.block q (by omega) (fun hm => by have := H4.out _ (ownL_mem.1 hm); omega)).trans (HAL.out.block q (by omega) (by simp)))
    · rw [HTK.out]
      exact HAPP.out.1.kept HST.out (fun g hg hm => by have h1 := HOW.out g hg; have h2 := HS1.out; simp at hm; omega)
    · have h1 := HS1.out
      have h0 := HBW.out
      have hsz := H3.out.size
      have h3 := HSA.out
      have h4 := HTCH.out.size
      exact Below.trans H3.out (Below.trans (HAL.out.below hsz (by simp)) (Below.trans (HTCH.out.below (by omega) (fun k hk => by have := H4.out _ (ownL_mem.1 hk); omega)) (HST.out.below (by omega) (fun k hk => by simp at hk; omega))))
  case done =>
    rintro A1 ⟨v, h1, h2, h3, h4⟩ hdf
    have H1 := Lib.hid h1
    have c0 := cell_at h1 0
    rw [List.take_length] at h2
    have H2 := Lib.hid h2
    have H3 := Lib.hid h3
    have H4 := Lib.hid h4
    obtain ⟨av, cv, hv⟩ := Row.len h2
    obtain ⟨kv, hkv⟩ : ∃ kv, kv = (L.map acell).length := ⟨_, rfl⟩
    rw [← hkv] at hv
    subst hv
    have HDF := Lib.hid hdf
    have HW1 := Lib.hid (show B ≠ w1.heap.size by have := HS1.out; omega)
    clear h1 h2 h3 h4 hkv hdf
    go_wp2
    exact as_ret HDF.out rfl (fun w' ht => ⟨_, rfl, H2.out.kept ht (fun g hg hm => by have := H4.out g hg; simp at hm; omega), Below.trans H3.out (ht.below H3.out.size (fun k hk => by have h1 := HS1.out; have h2 := HBW.out; simp at hk; omega)), fun q hq => by have h1 := H4.out q hq; have h2 := HS1.out; have h3 := HBW.out; omega⟩)
  case stop => exact fun c A h => h.elim
#print axioms appendSeq_ok
end Go.Proofs.YtieknecbheeekaaDoor
