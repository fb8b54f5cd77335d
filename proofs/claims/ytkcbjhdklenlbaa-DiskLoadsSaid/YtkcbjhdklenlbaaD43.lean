/- The document's disk: last, Read: the walks. -/
import Derived.Test.YtkcbjhdklenlbaaD42
set_option linter.unusedVariables false
set_option linter.unusedSimpArgs false
namespace Go.Proofs.Ytkcbjhdklenlbaa
open Go.RowKit

/-- what a block was written with last -/
def atB (l : List Blk) (ws : List (Nat × Blk)) (b : Nat) : Blk := ((applyW l ws)[b]?).getD []
theorem atB_snoc (l : List Blk) (ws : List (Nat × Blk)) (b : Nat) (hb : b < l.length) (q : Nat) (x : Blk) : atB l (ws ++ [(q, x)]) b = if q = b then x else atB l ws b := by
  unfold atB
  rw [applyW_snoc]
  by_cases h : q = b
  · subst h
    rw [if_pos rfl, List.getElem?_set, if_pos rfl, if_pos (by rw [applyW_length]; exact hb)]
    rfl
  · rw [if_neg h, List.getElem?_set_ne h]
set_option maxRecDepth 100000 in
set_option maxHeartbeats 2000000 in
theorem rlastb_ok {w : World} {R : Nat} {T : List Nat} {l : List Blk} {ws : List (Nat × Blk)} {a f : Int} {g c : Nat} {vw : Value} (h : RDk w R T l ws a f g c vw) (b : Nat) (hb : b < l.length) (hm : ws.length ≤ 1000000) :
    Calls Try.prog 44 #[.pointer (some ⟨R, 0, none⟩), .int .i64 (b : Int)] w fun e w' => e = .returned (.agg (bc (atB l ws b)).toArray) ∧ Grow w w' := by
  have hz := zero32
  have hzs := zero_size
  generalize (bc zeroB).toArray = Z at *
  have HZ := Lib.hid hzs
  have HP := Lib.hid h
  have ht : Touch [] w (w.alloc (.cells Z 32)) := Touch.alloc _ _ _
  have h1 := h.kept ht (by simp)
  have c0 := h1.cells.1
  have HR := Lib.hid (h1.row.get b hb)
  have hx := h.row.len256 _ (List.getElem_mem hb)
  obtain ⟨X, hX⟩ : ∃ X, X = l[b] := ⟨_, rfl⟩
  rw [← hX] at HR hx
  have HX0 := Lib.hid (show X = atB l (ws.take 0) b by rw [hX]; unfold atB; rw [List.take_zero]; show l[b] = (l[b]?).getD []; rw [List.getElem?_eq_getElem hb]; rfl)
  have HXl := Lib.hid hx
  have HXs := Lib.hid (show (bc X).length = 256 by rw [bc_length]; exact hx)
  have HSz := Lib.hid (show (Try.prog.info? 32).map (·.size) = some (bc X).toArray.size by rw [List.size_toArray, HXs.out]; exact size32)
  have HSo := Lib.hid (HZ.out.trans (show 256 = (bc X).toArray.size by rw [List.size_toArray, HXs.out]))
  have HO := Lib.hid (show (bc X).toArray.all (·.oneCell') = true from all_oneCell_toArray (bc_one _))
  obtain ⟨ad, cw, hvw⟩ := h.waits.len
  have hc1 := h.cells.2.1
  rw [hvw, List.length_map] at hc1
  obtain ⟨m, hmm⟩ : ∃ m, m = ws.length := ⟨_, rfl⟩
  rw [← hmm] at hc1 hm
  have HC1 := Lib.hid hc1
  have HV := Lib.hid hvw
  have HM := Lib.hid hmm
  have HBL := Lib.hid hb
  have h2048 := h.most
  obtain ⟨n, hn⟩ : ∃ n, l.length = n := ⟨_, rfl⟩
  rw [hn] at c0 hb h2048
  clear h h1 ht hX hx hzs hn hvw hmm hc1
  have b0 : (0 : Int) ≤ (b : Int) := by omega
  have b1 : (b : Int) < (n : Int) := by omega
  go_enter Try.func44, Try.ntmps44
  go_wp2_with (first | (refine wpList_load_mid rfl 32 _ rfl g (b * 256) rfl (bc X) _ HR.out Try.underlying32 rfl (by rw [HXs.out]; exact size32) ?_) | (refine wpList_store_row rfl 32 _ _ rfl (w.heap.size + 1) (bc X).toArray rfl rfl 32 Z (heap_two _ _ _) HSz.out HSo.out HO.out ?_))
  have HI := Lib.hid (show Below (w.heap.size + 1) (w.alloc (.cells Z 32)) (((w.alloc (.cells Z 32)).alloc (.cells Z 32)).setRow (w.heap.size + 1) (bc X).toArray) from below_setRow ((Below.refl (w.heap.size + 1) (w.alloc (.cells Z 32))).alloc (by simp) _) (Nat.le_refl _) _)
  have HJ := Lib.hid (show (((w.alloc (.cells Z 32)).alloc (.cells Z 32)).setRow (w.heap.size + 1) (bc X).toArray).heap[w.heap.size + 1]? = some (.cells (bc X).toArray 32) from setRow_heap _ _ _ _ _ _ (heap_two _ _ _))
  generalize ((w.alloc (.cells Z 32)).alloc (.cells Z 32)).setRow (w.heap.size + 1) (bc X).toArray = W2 at *
  clear c0 b0 b1
  go_loopw [6] (fun t wr => ∃ (k : Nat) (Y : Blk), k ≤ m ∧ t = .int .i64 (k : Int) ∧ Hid (Below (w.heap.size + 1) (w.alloc (.cells Z 32)) wr) ∧ Hid (wr.heap[w.heap.size + 1]? = some (.cells (bc Y).toArray 32)) ∧ Hid (Y.length = 256) ∧ Hid (Y = atB l (ws.take k) b)) (fun t _ => m - (intOf t).toNat)
  case atStart => exact ⟨0, X, by omega, rfl, HI, HJ, HXl, HX0⟩
  case round =>
    obtain ⟨k, Y, hk, rfl, HBe, HJ2, HYl, HY⟩ := hrel
    have HYs := Lib.hid (show (bc Y).length = 256 by rw [bc_length]; exact HYl.out)
    have hgw0 : Grow w wr := Below.trans (Grow.alloc w _) (HBe.out.mono (Nat.le_succ _))
    have hTw := Touch.of_below (S := []) hgw0
    have hp := HP.out
    have x1 := (hTw.cell (a := ⟨R, 1, none⟩) (hp.lt R hp.inR) (by simp)).trans HC1.out
    have HGW := Lib.hid hgw0
    by_cases hlt : k < m
    · have hkl : k < ws.length := by rw [← HM.out]; exact hlt
      obtain ⟨gw, cw', hv2, hgw, _⟩ := hp.waits.open_ (by rw [List.length_map]; omega)
      rw [List.length_map, ← HM.out] at hv2
      have hv3 : Value.slice ad m cw = .slice (some ⟨gw, 0, none⟩) m cw' := by
        have := HV.out
        rw [List.length_map, ← HM.out] at this
        exact this.symm.trans hv2
      have hwrow := hp.waits
      rw [hv2] at hwrow
      have hget : (ws.map wc)[k]? = some (wc ws[k]) := by simp [hkl]
      have hrg := range_touch (hwrow.range hget) hTw hgw (by simp)
      obtain ⟨q, x, hbx⟩ : ∃ q x, ws[k] = (q, x) := ⟨_, _, rfl⟩
      have hxl : x.length = 256 := by
        have h3 := hwrow.1 (wc ws[k]) (List.mem_of_getElem? hget)
        rw [hbx] at h3
        unfold wc at h3
        rw [List.length_cons, bc_length] at h3
        dsimp only at h3
        omega
      rw [hbx] at hrg
      rw [hv3] at x1
      have x2 : wr.cell? ⟨gw, k * 257, none⟩ = some (.int .i64 (q : Int)) := hrg 0 _ rfl
      have HRX := Lib.hid (show wr.rangeAt gw (k * 257 + 1) (bc x) from fun j v hv => by
        have := hrg (j + 1) v (by simpa [wc] using hv)
        rw [show k * 257 + (j + 1) = k * 257 + 1 + j by omega] at this
        exact this)
      have HSN := Lib.hid (show atB l (ws.take (k + 1)) b = if q = b then x else Y by
        rw [List.take_succ_eq_append_getElem hkl, hbx, atB_snoc _ _ _ HBL.out, HY.out])
      have HXl2 := Lib.hid hxl
      have HXs2 := Lib.hid (show (bc x).length = 256 by rw [bc_length]; exact hxl)
      have HSz2 := Lib.hid (show (Try.prog.info? 32).map (·.size) = some (bc x).toArray.size by rw [List.size_toArray, HXs2.out]; exact size32)
      have HSo2 := Lib.hid (show (bc Y).toArray.size = (bc x).toArray.size by rw [List.size_toArray, List.size_toArray, HXs2.out, HYs.out])
      have HO2 := Lib.hid (show (bc x).toArray.all (·.oneCell') = true from all_oneCell_toArray (bc_one _))
      have b0 : (0 : Int) ≤ (k : Int) := by omega
      have b1 : (k : Int) < (m : Int) := by omega
      clear hp hv2 hgw hwrow hget hrg hbx hxl hTw hv3 hgw0
      by_cases hqb : q = b
      · have eq1 : ((q : Int) == (b : Int)) = true := by rw [hqb]; simp
        have HS3 := Lib.hid (HSN.out.trans (if_pos hqb))
        clear hqb
        go_wp2_with (first | (refine wpList_load_mid rfl 32 _ rfl gw (k * 257 + 1) rfl (bc x) _ HRX.out Try.underlying32 rfl (by rw [HXs2.out]; exact size32) ?_) | (refine wpList_store_row rfl 32 _ _ rfl (w.heap.size + 1) (bc x).toArray rfl rfl 32 (bc Y).toArray HJ2.out HSz2.out HSo2.out HO2.out ?_))
        go_roundw
        case rel => exact ⟨k + 1, x, by omega, by go_num, Lib.hid (below_setRow HBe.out (Nat.le_refl _) _), Lib.hid (setRow_heap _ _ _ _ _ _ HJ2.out), HXl2, Lib.hid HS3.out.symm⟩
        case measure => simp [intOf]; omega
      · have eq1 : ((q : Int) == (b : Int)) = false := by simp; omega
        have HS3 := Lib.hid (HSN.out.trans (if_neg hqb))
        clear hqb
        go_wp2_with fail
        go_roundw
        case rel => exact ⟨k + 1, Y, by omega, by go_num, HBe, HJ2, HYl, Lib.hid HS3.out.symm⟩
        case measure => simp [intOf]; omega
    · obtain rfl : m = k := by omega
      have HFin := Lib.hid (show Y = atB l ws b by rw [HY.out, List.take_of_length_le (by rw [HM.out]; exact Nat.le_refl _)])
      have HA := Lib.hid (show wr.heap[w.heap.size]? = some (.cells Z 32) from (HBe.out.block _ (Nat.lt_succ_self _)).trans (heap_alloc_last w _))
      have HSz2 := Lib.hid (show (Try.prog.info? 32).map (·.size) = some (bc Y).toArray.size by rw [List.size_toArray, HYs.out]; exact size32)
      have HSo2 := Lib.hid (show Z.size = (bc Y).toArray.size from HZ.out.trans (show 256 = (bc Y).toArray.size by rw [List.size_toArray, HYs.out]))
      have HO2 := Lib.hid (show (bc Y).toArray.all (·.oneCell') = true from all_oneCell_toArray (bc_one _))
      clear hp hTw hgw0
      go_wp2_with (first | (refine wpList_load_row rfl 32 _ rfl (w.heap.size + 1) rfl 32 (bc Y).toArray (0, 0) _ HJ2.out Try.underlying32 rfl HSz2.out ?_) | (refine wpList_store_row rfl 32 _ _ rfl w.heap.size (bc Y).toArray rfl rfl 32 Z HA.out HSz2.out HSo2.out HO2.out ?_))
      refine bodyPost_ret (results_cell_row rfl _ _ w.heap.size 32 (bc Y).toArray (0, 0) _ rfl (setRow_heap _ _ _ _ _ _ HA.out) Try.underlying32 rfl HSz2.out) rfl ⟨by rw [HFin.out], below_setRow HGW.out (Nat.le_refl _) _⟩
#print axioms rlastb_ok
theorem atB_len {w : World} {R : Nat} {T : List Nat} {l : List Blk} {ws : List (Nat × Blk)} {a f : Int} {g c : Nat} {vw : Value} (h : RDk w R T l ws a f g c vw) (b : Nat) (hb : b < l.length) : (atB l ws b).length = 256 := by
  have hall : ∀ k, k ≤ ws.length → (atB l (ws.take k) b).length = 256 := by
    intro k
    induction k with
    | zero =>
      intro _
      unfold atB
      rw [List.take_zero]
      show ((l[b]?).getD []).length = 256
      rw [List.getElem?_eq_getElem hb]
      exact h.row.len256 _ (List.getElem_mem hb)
    | succ k ih =>
      intro hk
      have hkl : k < ws.length := by omega
      obtain ⟨q, x, hbx⟩ : ∃ q x, ws[k] = (q, x) := ⟨_, _, rfl⟩
      rw [List.take_succ_eq_append_getElem hkl, hbx, atB_snoc _ _ _ hb]
      split
      · have h3 := h.waits.1 (wc ws[k]) (List.mem_of_getElem? (by simp [hkl] : (ws.map wc)[k]? = some (wc ws[k])))
        rw [hbx] at h3
        unfold wc at h3
        rw [List.length_cons, bc_length] at h3
        dsimp only at h3
        omega
      · exact ih (by omega)
  have := hall ws.length (Nat.le_refl _)
  rwa [List.take_length] at this
set_option maxHeartbeats 2000000 in
theorem rread_ok {w : World} {R : Nat} {T : List Nat} {d : DS} (h : IsRef w R T d) (b : Nat) (hb : b < d.safe.length) (hd : d.dead = false) (hm : d.ws.length ≤ 1000000) :
    Calls Try.prog 39 #[.pointer (some ⟨R, 0, none⟩), .int .i64 (b : Int)] w fun e w' => e = .returned (.tuple #[.agg (bc (atB d.safe d.ws b)).toArray, .int .i64 0]) ∧ Grow w w' := by
  have hz := zero32
  have hzs := zero_size
  generalize (bc zeroB).toArray = Z at *
  have HZ := Lib.hid hzs
  have h1 := h.kept (Touch.alloc [] w (.cells Z 32)) (by simp)
  have HD := Lib.hid h1
  have HDD := Lib.hid hd
  obtain ⟨g, c, vw, h1⟩ := h1
  have HL := Lib.hid (rlastb_ok h1 b hb hm)
  have HYs := Lib.hid (show (bc (atB d.safe d.ws b)).length = 256 by rw [bc_length]; exact atB_len h1 b hb)
  have c0 := h1.cells.1
  obtain ⟨n, hn⟩ : ∃ n, d.safe.length = n := ⟨_, rfl⟩
  rw [hn] at c0 hb
  obtain ⟨Y, hY⟩ : ∃ Y, atB d.safe d.ws b = Y := ⟨_, rfl⟩
  rw [hY] at HL HYs ⊢
  have HSz2 := Lib.hid (show (Try.prog.info? 32).map (·.size) = some (bc Y).toArray.size by rw [List.size_toArray, HYs.out]; exact size32)
  have HSo2 := Lib.hid (show Z.size = (bc Y).toArray.size from HZ.out.trans (show 256 = (bc Y).toArray.size by rw [List.size_toArray, HYs.out]))
  have HO2 := Lib.hid (show (bc Y).toArray.all (·.oneCell') = true from all_oneCell_toArray (bc_one _))
  have e0 : decide ((b : Int) < 0) = false := by simp
  have e1 : decide ((n : Int) ≤ (b : Int)) = false := by simp; omega
  clear h h1 hd hn hY hzs
  go_enter Try.func39, Try.ntmps39
  go_wp2_with fail
  refine (rdead_ok HD.out).mono ?_
  rintro e w' ⟨rfl, rfl⟩
  rw [HDD.out]
  go_wp2_with fail
  refine HL.out.mono ?_
  intro e w1 hpost
  obtain ⟨he, hg⟩ := hpost
  subst he
  have HG := Lib.hid hg
  have HA := Lib.hid (heap_row_one hg)
  clear hg c0
  go_wp2_with (refine wpList_store_row rfl 32 _ _ rfl w.heap.size (bc Y).toArray rfl rfl 32 Z HA.out HSz2.out HSo2.out HO2.out ?_)
  refine bodyPost_ret (results_row_tmp rfl _ _ w.heap.size 32 (bc Y).toArray (0, 0) _ _ rfl (setRow_heap _ _ _ _ _ _ HA.out) Try.underlying32 rfl HSz2.out rfl) rfl ⟨rfl, below_setRow ((Grow.alloc w _).trans HG.out) (Nat.le_refl _) _⟩
#print axioms rread_ok
set_option maxHeartbeats 2000000 in
theorem rread_no {w : World} {R : Nat} {T : List Nat} {d : DS} (h : IsRef w R T d) (b : Int) (hy : d.why b ≠ 0) :
    Calls Try.prog 39 #[.pointer (some ⟨R, 0, none⟩), .int .i64 b] w fun e w' => e = .returned (.tuple #[.agg (bc zeroB).toArray, .int .i64 (d.why b)]) ∧ Grow w w' := by
  have HB := Lib.hid (show Try.prog.built 32 [] = some (bc zeroB).toArray by kernel_rfl)
  have hz := zero32
  have hzs := zero_size
  have HO := Lib.hid (show (bc zeroB).toArray.all (·.oneCell') = true from all_oneCell_toArray (bc_one _))
  generalize (bc zeroB).toArray = Z at *
  have HZ := Lib.hid hzs
  have HSz := Lib.hid (show (Try.prog.info? 32).map (·.size) = some Z.size by rw [hzs]; exact size32)
  have h1 := h.kept (Touch.alloc [] w (.cells Z 32)) (by simp)
  have HD := Lib.hid h1
  obtain ⟨g, c, vw, h1⟩ := h1
  have c0 := h1.cells.1
  clear h h1 hzs
  cases hd : d.dead with
  | true =>
    have HY := Lib.hid (show d.why b = 30 by unfold DS.why; rw [hd, if_pos rfl])
    have HDD := Lib.hid hd
    clear hd
    go_enter Try.func39, Try.ntmps39
    go_wp2_with fail
    refine (rdead_ok HD.out).mono ?_
    rintro e w' ⟨rfl, rfl⟩
    rw [HDD.out]
    go_wp2_with (first | ((refine wpList_build rfl 32 _ rfl (by rw [show (((#[] : Array (Nat × Operand)).map fun (i, x) => (i, Act.eval _ x)).toList) = [] from rfl, HB.out]; rfl) ?_); rw [show (((#[] : Array (Nat × Operand)).map fun (i, x) => (i, Act.eval _ x)).toList) = [] from rfl, HB.out, Option.getD_some]) | (refine wpList_store_row rfl 32 _ _ rfl w.heap.size Z rfl rfl 32 Z (heap_alloc_last _ _) HSz.out rfl HO.out ?_))
    refine bodyPost_ret (results_row_tmp rfl _ _ w.heap.size 32 Z (0, 0) _ _ rfl (setRow_heap _ _ _ _ _ _ (heap_alloc_last _ _)) Try.underlying32 rfl HSz.out rfl) rfl ⟨by rw [HY.out]; rfl, below_setRow ((Below.refl _ _).alloc (Nat.le_refl _) _) (Nat.le_refl _) _⟩
  | false =>
    have hb : ¬(0 ≤ b ∧ b < d.safe.length) := fun hb => hy (by unfold DS.why; rw [hd, if_neg (by simp), if_pos hb])
    have HY := Lib.hid (show d.why b = 2 by unfold DS.why; rw [hd, if_neg (by simp), if_neg hb])
    have HDD := Lib.hid hd
    generalize d.safe.length = n at *
    clear hd
    by_cases h0 : b < 0
    · have e0 : decide (b < 0) = true := by simpa using h0
      go_enter Try.func39, Try.ntmps39
      go_wp2_with fail
      refine (rdead_ok HD.out).mono ?_
      rintro e w' ⟨rfl, rfl⟩
      rw [HDD.out]
      go_wp2_with (first | ((refine wpList_build rfl 32 _ rfl (by rw [show (((#[] : Array (Nat × Operand)).map fun (i, x) => (i, Act.eval _ x)).toList) = [] from rfl, HB.out]; rfl) ?_); rw [show (((#[] : Array (Nat × Operand)).map fun (i, x) => (i, Act.eval _ x)).toList) = [] from rfl, HB.out, Option.getD_some]) | (refine wpList_store_row rfl 32 _ _ rfl w.heap.size Z rfl rfl 32 Z (heap_alloc_last _ _) HSz.out rfl HO.out ?_))
      refine bodyPost_ret (results_row_tmp rfl _ _ w.heap.size 32 Z (0, 0) _ _ rfl (setRow_heap _ _ _ _ _ _ (heap_alloc_last _ _)) Try.underlying32 rfl HSz.out rfl) rfl ⟨by rw [HY.out]; rfl, below_setRow ((Below.refl _ _).alloc (Nat.le_refl _) _) (Nat.le_refl _) _⟩
    · have e0 : decide (b < 0) = false := by simpa using h0
      have e1 : decide ((n : Int) ≤ b) = true := by simp; omega
      go_enter Try.func39, Try.ntmps39
      go_wp2_with fail
      refine (rdead_ok HD.out).mono ?_
      rintro e w' ⟨rfl, rfl⟩
      rw [HDD.out]
      go_wp2_with (first | ((refine wpList_build rfl 32 _ rfl (by rw [show (((#[] : Array (Nat × Operand)).map fun (i, x) => (i, Act.eval _ x)).toList) = [] from rfl, HB.out]; rfl) ?_); rw [show (((#[] : Array (Nat × Operand)).map fun (i, x) => (i, Act.eval _ x)).toList) = [] from rfl, HB.out, Option.getD_some]) | (refine wpList_store_row rfl 32 _ _ rfl w.heap.size Z rfl rfl 32 Z (heap_alloc_last _ _) HSz.out rfl HO.out ?_))
      refine bodyPost_ret (results_row_tmp rfl _ _ w.heap.size 32 Z (0, 0) _ _ rfl (setRow_heap _ _ _ _ _ _ (heap_alloc_last _ _)) Try.underlying32 rfl HSz.out rfl) rfl ⟨by rw [HY.out]; rfl, below_setRow ((Below.refl _ _).alloc (Nat.le_refl _) _) (Nat.le_refl _) _⟩
#print axioms rread_no
end Go.Proofs.Ytkcbjhdklenlbaa
