/- quernlaw15.Block: a row's bytes. -/
import Derived.Test.YtlhhbkpocpnebaaP3
set_option linter.unusedVariables false
set_option linter.unusedSimpArgs false
namespace Go.Proofs.Ytlhhbkpocpnebaa
open Go.RowKit Go.Maps

/-- a block told in short -/
structure PR where
  b : Int
  f : Nat
  m : Bool
def PR.ok (r : PR) : Prop := IntOk r.b ∧ r.f < 256
def rcell (r : PR) : List Value := [.int .i64 r.b, .int .u8 (r.f : Int), .bool r.m]
def rowB (r : PR) : Blk := if r.m then 81 :: 74 :: 78 :: 76 :: List.replicate 252 r.f else List.replicate 256 r.f
theorem rowB_length (r : PR) : (rowB r).length = 256 := by
  unfold rowB; split
  · simp only [List.length_cons, List.length_replicate]
  · rw [List.length_replicate]
/-- full up to k -/
def fullTo (f k : Nat) : Blk := List.replicate k f ++ List.replicate (256 - k) 0
theorem fullTo_length {f k : Nat} (h : k ≤ 256) : (fullTo f k).length = 256 := by unfold fullTo; simp; omega
theorem fullTo_set {f k : Nat} (h : k < 256) : (fullTo f k).set k f = fullTo f (k + 1) := by
  unfold fullTo
  rw [List.set_append_right _ _ (by simp), List.length_replicate, Nat.sub_self, show 256 - k = (256 - (k + 1)) + 1 by omega, List.replicate_succ, List.set_cons_zero, List.replicate_succ', List.append_assoc]
  rfl
theorem fullTo_all (f : Nat) : fullTo f 256 = List.replicate 256 f := by unfold fullTo; rw [Nat.sub_self, List.replicate_zero, List.append_nil]
theorem magic_gen (f n : Nat) : ((((List.replicate (n + 4) f).set 0 81).set 1 74).set 2 78).set 3 76 = 81 :: 74 :: 78 :: 76 :: List.replicate n f := rfl
theorem fullTo_magic (f : Nat) : ((((fullTo f 256).set 0 81).set 1 74).set 2 78).set 3 76 = 81 :: 74 :: 78 :: 76 :: List.replicate 252 f := by
  rw [fullTo_all]; exact magic_gen f 252
theorem fullTo_get {f k j : Nat} (hk : k ≤ 256) (hj : j < 256) : ∃ y, (bc (fullTo f k)).toArray[j]? = some y := by
  have : j < (bc (fullTo f k)).toArray.size := by rw [List.size_toArray, bc_length, fullTo_length hk]; exact hj
  exact ⟨_, Array.getElem?_eq_getElem this⟩
structure NInv (w : World) (f k : Nat) (wr : World) (m : Bool) : Prop where
  row : wr.heap[w.heap.size + 1 + 1]? = some (.cells (bc (fullTo f k)).toArray 29)
  grow : Grow w wr
  arg : wr.cell? ⟨w.heap.size, 1, none⟩ = some (.int .u8 (f : Int))
  arg2 : wr.cell? ⟨w.heap.size, 2, none⟩ = some (.bool m)
  out : ∃ Z : Array Value, Z.size = 256 ∧ wr.heap[w.heap.size + 1]? = some (.cells Z 29)
theorem NInv.start (w : World) (b : Int) (f : Nat) (m : Bool) (hs : (bc (fullTo f 0)).toArray.size = 256) : NInv w f 0 (((w.alloc (.cells #[.int .i64 b, .int .u8 (f : Int), .bool m] 32)).alloc (.cells (bc (fullTo f 0)).toArray 29)).alloc (.cells (bc (fullTo f 0)).toArray 29)) m where
  row := by
    have := heap_two (w.alloc (.cells #[.int .i64 b, .int .u8 (f : Int), .bool m] 32)) (.cells (bc (fullTo f 0)).toArray 29) (.cells (bc (fullTo f 0)).toArray 29)
    simpa using this
  grow := Grow.trans (Grow.trans (Grow.alloc _ _) (Grow.alloc _ _)) (Grow.alloc _ _)
  arg := by
    have h1 : ((w.alloc (.cells #[.int .i64 b, .int .u8 (f : Int), .bool m] 32)).alloc (.cells (bc (fullTo f 0)).toArray 29)).heap[w.heap.size]? = _ := heap_one w _ _
    have h2 := (Below.heap_alloc _ (.cells (bc (fullTo f 0)).toArray 29) w.heap.size (by simp; omega)).trans h1
    exact cell_at h2 1
  arg2 := by
    have h1 : ((w.alloc (.cells #[.int .i64 b, .int .u8 (f : Int), .bool m] 32)).alloc (.cells (bc (fullTo f 0)).toArray 29)).heap[w.heap.size]? = _ := heap_one w _ _
    have h2 := (Below.heap_alloc _ (.cells (bc (fullTo f 0)).toArray 29) w.heap.size (by simp; omega)).trans h1
    exact cell_at h2 2
  out := by
    have := heap_one (w.alloc (.cells #[.int .i64 b, .int .u8 (f : Int), .bool m] 32)) (.cells (bc (fullTo f 0)).toArray 29) (.cells (bc (fullTo f 0)).toArray 29)
    exact ⟨_, hs, by simpa using this⟩
theorem NInv.step {w wr : World} {f k : Nat} {m : Bool} (h : NInv w f k wr m) (hk : k < 256) : NInv w f (k + 1) (wr.setCell ⟨w.heap.size + 1 + 1, k, none⟩ (.int .u8 (f : Int))) m where
  row := by
    rw [heap_set h.row, ← bc_set, fullTo_set hk]
  grow := Below.trans h.grow ((Touch.setCell (S := [w.heap.size + 1 + 1]) wr (a := ⟨w.heap.size + 1 + 1, k, none⟩) (by simp) _).below h.grow.size (by simp; omega))
  arg := (Touch.cell (Touch.setCell (S := [w.heap.size + 1 + 1]) wr (a := ⟨w.heap.size + 1 + 1, k, none⟩) (by simp) _) (a := ⟨w.heap.size, 1, none⟩) (World.block_lt_of_cell? _ _ h.arg) (by simp; omega)).trans h.arg
  arg2 := (Touch.cell (Touch.setCell (S := [w.heap.size + 1 + 1]) wr (a := ⟨w.heap.size + 1 + 1, k, none⟩) (by simp) _) (a := ⟨w.heap.size, 2, none⟩) (World.block_lt_of_cell? _ _ h.arg2) (by simp; omega)).trans h.arg2
  out := by
    obtain ⟨Z, h1, h2⟩ := h.out
    exact ⟨Z, h1, ((Touch.setCell (S := [w.heap.size + 1 + 1]) wr (a := ⟨w.heap.size + 1 + 1, k, none⟩) (by simp) _).block _ (Array.getElem?_eq_some_iff.1 h2).1 (by simp)).trans h2⟩
set_option maxRecDepth 100000 in
set_option maxHeartbeats 4000000 in
theorem rowblock_ok (r : PR) (w : World) : Calls Try.prog 12 #[.agg (rcell r).toArray] w fun e w' => e = .returned (.agg (bc (rowB r)).toArray) ∧ Grow w w' := by
  obtain ⟨b, f, m⟩ := r
  have hz := zero32
  have hZs := zero_size
  have hZf : bc zeroB = bc (fullTo f 0) := by unfold fullTo; rw [bc_zero, bc]; simp
  rw [hZf] at hz hZs
  have HI0 := Lib.hid (NInv.start w b f m hZs)
  unfold rcell
  generalize hq : (bc (fullTo f 0)).toArray = Z at *
  clear hq
  go_enter Try.func12, Try.ntmps12
  go_wp2
  go_loopw [4] (fun t4 wr => ∃ k : Nat, t4 = .int .i64 (k : Int) ∧ k ≤ 256 ∧ Hid (NInv w f k wr m)) (fun t4 _ => 256 - (intOf t4).toNat)
  case atStart => exact ⟨0, by go_num, by omega, HI0⟩
  case round =>
    obtain ⟨k, rfl, hk, HI⟩ := hrel
    clear HI0
    have h1 := HI.out.arg
    by_cases hlt : k < 256
    · have HI2 := Lib.hid (HI.out.step hlt)
      obtain ⟨y, hy⟩ := fullTo_get (f := f) hk hlt
      have hcell : wr.cell? ⟨w.heap.size + 1 + 1, k, none⟩ = some y := (cell_at HI.out.row k).trans hy
      have hfr : wr.frozen? ⟨w.heap.size + 1 + 1, k, none⟩ = false := frozen_at HI.out.row k
      clear hy
      go_wp2
      go_roundw
      case rel => exact ⟨k + 1, by go_num, by omega, HI2⟩
      case measure => simp [intOf]; omega
    · obtain rfl : k = 256 := by omega
      obtain ⟨Zo, hZo, hHo⟩ := HI.out.out
      have h2 := HI.out.arg2
      have HZO := Lib.hid hZo
      have HHO := Lib.hid hHo
      have HRW := Lib.hid HI.out.row
      have HGR := Lib.hid HI.out.grow
      have HRB := Lib.hid (show rowB ⟨b, f, m⟩ = if m then ((((fullTo f 256).set 0 81).set 1 74).set 2 78).set 3 76 else fullTo f 256 by rw [fullTo_magic, fullTo_all]; rfl)
      have HS0 := Lib.hid (rowB_length ⟨b, f, m⟩)
      obtain ⟨R, hR⟩ : ∃ R, R = (bc (rowB ⟨b, f, m⟩)).toArray := ⟨_, rfl⟩
      have HR := Lib.hid hR
      have HRs := Lib.hid (show R.size = 256 by rw [hR, List.size_toArray, bc_length, HS0.out])
      have HR1 := Lib.hid (show R.all (·.oneCell') = true by rw [hR]; exact all_oneCell_toArray (bc_one _))
      clear hZo hHo hR
      cases m with
      | false =>
        have HH3 := Lib.hid (show wr.heap[w.heap.size + 1 + 1]? = some (.cells R 29) by rw [HR.out, HRB.out]; exact HRW.out)
        go_wp2_with (first | (refine wpList_load_row rfl _ _ rfl (w.heap.size + 1 + 1) rfl 29 R (0, 0) _ HH3.out Try.underlying29 rfl (by rw [HRs.out]; exact size32) ?_) | (refine wpList_store_row rfl _ _ _ rfl (w.heap.size + 1) R rfl rfl 29 Zo HHO.out (by rw [HRs.out]; exact size32) (by rw [HRs.out]; exact HZO.out) HR1.out ?_))
        refine bodyPost_ret (results_cell_row rfl _ _ (w.heap.size + 1) 29 R (0, 0) _ rfl (setRow_heap _ _ _ _ _ _ HHO.out) Try.underlying29 rfl (by rw [HRs.out]; exact size32)) rfl ⟨by rw [HR.out], below_setRow HGR.out (by omega) _⟩
      | true =>
        obtain ⟨y0, hy0⟩ := fullTo_get (f := f) hk (show 0 < 256 by omega)
        obtain ⟨y1, hy1⟩ := fullTo_get (f := f) hk (show 1 < 256 by omega)
        obtain ⟨y2, hy2⟩ := fullTo_get (f := f) hk (show 2 < 256 by omega)
        obtain ⟨y3, hy3⟩ := fullTo_get (f := f) hk (show 3 < 256 by omega)
        have c0 : wr.cell? ⟨w.heap.size + 1 + 1, 0, none⟩ = some y0 := (cell_at HRW.out 0).trans hy0
        have c1 : wr.cell? ⟨w.heap.size + 1 + 1, 1, none⟩ = some y1 := (cell_at HRW.out 1).trans hy1
        have c2 : wr.cell? ⟨w.heap.size + 1 + 1, 2, none⟩ = some y2 := (cell_at HRW.out 2).trans hy2
        have c3 : wr.cell? ⟨w.heap.size + 1 + 1, 3, none⟩ = some y3 := (cell_at HRW.out 3).trans hy3
        have f0 : wr.frozen? ⟨w.heap.size + 1 + 1, 0, none⟩ = false := frozen_at HRW.out 0
        have f1 : wr.frozen? ⟨w.heap.size + 1 + 1, 1, none⟩ = false := frozen_at HRW.out 1
        have f2 : wr.frozen? ⟨w.heap.size + 1 + 1, 2, none⟩ = false := frozen_at HRW.out 2
        have f3 : wr.frozen? ⟨w.heap.size + 1 + 1, 3, none⟩ = false := frozen_at HRW.out 3
        have HT := Lib.hid (show Touch [w.heap.size + 1 + 1] wr ((((wr.setCell ⟨w.heap.size + 1 + 1, 0, none⟩ (.int .u8 81)).setCell ⟨w.heap.size + 1 + 1, 1, none⟩ (.int .u8 74)).setCell ⟨w.heap.size + 1 + 1, 2, none⟩ (.int .u8 78)).setCell ⟨w.heap.size + 1 + 1, 3, none⟩ (.int .u8 76)) from (((Touch.setCell _ (by simp) _).trans (Touch.setCell _ (by simp) _) (fun i hi => .inl hi)).trans (Touch.setCell _ (by simp) _) (fun i hi => .inl hi)).trans (Touch.setCell _ (by simp) _) (fun i hi => .inl hi))
        have HH3 := Lib.hid (show ((((wr.setCell ⟨w.heap.size + 1 + 1, 0, none⟩ (.int .u8 81)).setCell ⟨w.heap.size + 1 + 1, 1, none⟩ (.int .u8 74)).setCell ⟨w.heap.size + 1 + 1, 2, none⟩ (.int .u8 78)).setCell ⟨w.heap.size + 1 + 1, 3, none⟩ (.int .u8 76)).heap[w.heap.size + 1 + 1]? = some (.cells R 29) by
          rw [HR.out, HRB.out, if_pos rfl, bc_set, bc_set, bc_set, bc_set]
          exact heap_set (heap_set (heap_set (heap_set HRW.out 0 _) 1 _) 2 _) 3 _)
        clear hy0 hy1 hy2 hy3
        go_upto_region 8 with (fail)
        generalize ((((wr.setCell ⟨w.heap.size + 1 + 1, 0, none⟩ (.int .u8 81)).setCell ⟨w.heap.size + 1 + 1, 1, none⟩ (.int .u8 74)).setCell ⟨w.heap.size + 1 + 1, 2, none⟩ (.int .u8 78)).setCell ⟨w.heap.size + 1 + 1, 3, none⟩ (.int .u8 76)) = wm at *
        have HHO2 := Lib.hid ((HT.out.block (w.heap.size + 1) (Array.getElem?_eq_some_iff.1 HHO.out).1 (by simp)).trans HHO.out)
        have HGR2 := Lib.hid (show Grow w wm from Below.trans HGR.out (HT.out.below HGR.out.size (by simp; omega)))
        go_wp2_with (first | (refine wpList_load_row rfl _ _ rfl (w.heap.size + 1 + 1) rfl 29 R (0, 0) _ HH3.out Try.underlying29 rfl (by rw [HRs.out]; exact size32) ?_) | (refine wpList_store_row rfl _ _ _ rfl (w.heap.size + 1) R rfl rfl 29 Zo HHO2.out (by rw [HRs.out]; exact size32) (by rw [HRs.out]; exact HZO.out) HR1.out ?_))
        refine bodyPost_ret (results_cell_row rfl _ _ (w.heap.size + 1) 29 R (0, 0) _ rfl (setRow_heap _ _ _ _ _ _ HHO2.out) Try.underlying29 rfl (by rw [HRs.out]; exact size32)) rfl ⟨by rw [HR.out], below_setRow HGR2.out (by omega) _⟩
#print axioms rowblock_ok
end Go.Proofs.Ytlhhbkpocpnebaa
