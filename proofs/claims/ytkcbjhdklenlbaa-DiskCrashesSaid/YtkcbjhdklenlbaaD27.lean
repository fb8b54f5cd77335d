/- The law's awake: the walk. -/
import Derived.Test.YtkcbjhdklenlbaaD26
import Derived.Test.YtkcbjhdklenlbaaD24
set_option linter.unusedVariables false
set_option linter.unusedSimpArgs false
namespace Go.Proofs.Ytkcbjhdklenlbaa
open Go.RowKit

def aw1 (x1 : Blk) : DS := { safe := [zeroB, zeroB, zeroB, zeroB], last := [zeroB, x1, zeroB, zeroB], ws := [(1, x1)], acts := 1, set := false, left := 0 }
def aw2 (x1 x2 : Blk) : DS := { safe := [zeroB, zeroB, zeroB, zeroB], last := [zeroB, x2, zeroB, zeroB], ws := [(1, x1), (1, x2)], acts := 2, set := false, left := 0 }
def aw3 (x1 x2 x3 : Blk) : DS := { safe := [zeroB, zeroB, zeroB, zeroB], last := [zeroB, x2, x3, zeroB], ws := [(1, x1), (1, x2), (2, x3)], acts := 3, set := false, left := 0 }
def aw4 (x1 x2 x3 : Blk) : DS := { safe := [zeroB, x1, x3, zeroB], last := [zeroB, x1, x3, zeroB], ws := [], acts := 3, set := false, left := 0 }
theorem aw1_eq (x1 : Blk) : (newD 4).wrote 1 x1 = aw1 x1 := rfl
theorem aw2_eq (x1 x2 : Blk) : (aw1 x1).wrote 1 x2 = aw2 x1 x2 := rfl
theorem aw3_eq (x1 x2 x3 : Blk) : (aw2 x1 x2).wrote 2 x3 = aw3 x1 x2 x3 := rfl
theorem aw4_eq (x1 x2 x3 : Blk) : (aw3 x1 x2 x3).crashed [true, false, true] = aw4 x1 x2 x3 := rfl
theorem aw3_in (x1 x2 x3 : Blk) : ∀ p ∈ (aw3 x1 x2 x3).ws, p.1 < (aw3 x1 x2 x3).safe.length := by
  intro p hp
  have hp' : p ∈ [((1 : Nat), x1), (1, x2), (2, x3)] := hp
  have hl : (aw3 x1 x2 x3).safe.length = 4 := rfl
  rw [hl]
  simp only [List.mem_cons, List.not_mem_nil, or_false] at hp'
  rcases hp' with h | h | h <;> rw [h] <;> simp
theorem aw3_le (x1 x2 x3 : Blk) : (aw3 x1 x2 x3).ws.length ≤ 1000000 := by
  have hl : (aw3 x1 x2 x3).ws.length = 3 := rfl
  rw [hl]; omega
theorem bools3_le : [true, false, true].length ≤ 9223372036854775807 := by
  have hl : [true, false, true].length = 3 := rfl
  rw [hl]; omega
theorem bools3 (w : World) (S : List Nat) (hS : ∀ k ∈ S, k < w.heap.size) : Bools (w.alloc (.cells #[.bool true, .bool false, .bool true] 4)) S (.slice (some ⟨w.heap.size, 0, none⟩) 3 3) [true, false, true] := by
  have hh := heap_alloc_last w (.cells #[.bool true, .bool false, .bool true] 4)
  refine ⟨some ⟨w.heap.size, 0, none⟩, 3, rfl, fun i x hx => ⟨_, rfl, by simp, fun hm => Nat.lt_irrefl _ (hS _ hm), ?_⟩⟩
  rw [Addr.add_mid, Nat.zero_add, cell_at hh]
  match i, hx with
  | 0, hx => cases hx; rfl
  | 1, hx => cases hx; rfl
  | 2, hx => cases hx; rfl
  | i + 3, hx => simp at hx
theorem IsDisk.lt {w : World} {B : Nat} {S : List Nat} {d : DS} (h : IsDisk w B S d) : ∀ k ∈ S, k < w.heap.size := by
  obtain ⟨gs, cs, gl, cl, vw, h⟩ := h; exact h.lt
set_option maxRecDepth 100000 in
set_option maxHeartbeats 4000000 in
theorem awake_ok (w : World) : Calls Try.prog 26 #[] w fun e w' => e = .returned (.bool true) ∧ Grow w w' := by
  have HF1 := Lib.hid (fun w => fill_any 1 (by omega) w)
  have HF2 := Lib.hid (fun w => fill_any 2 (by omega) w)
  have HF3 := Lib.hid (fun w => fill_any 3 (by omega) w)
  have HX1 := Lib.hid (fillB_length 1)
  have HX2 := Lib.hid (fillB_length 2)
  have HX3 := Lib.hid (fillB_length 3)
  generalize fillB 1 = x1 at *
  generalize fillB 2 = x2 at *
  generalize fillB 3 = x3 at *
  have HS1 := Lib.hid (show (Try.prog.info? 32).map (·.size) = some (bc x1).toArray.size by rw [List.size_toArray, bc_length, HX1.out]; exact size32)
  have HO1 := Lib.hid (show (bc x1).toArray.all (·.oneCell') = true from all_oneCell_toArray (bc_one _))
  have HS2 := Lib.hid (show (Try.prog.info? 32).map (·.size) = some (bc x2).toArray.size by rw [List.size_toArray, bc_length, HX2.out]; exact size32)
  have HO2 := Lib.hid (show (bc x2).toArray.all (·.oneCell') = true from all_oneCell_toArray (bc_one _))
  have HS3 := Lib.hid (show (Try.prog.info? 32).map (·.size) = some (bc x3).toArray.size by rw [List.size_toArray, bc_length, HX3.out]; exact size32)
  have HO3 := Lib.hid (show (bc x3).toArray.all (·.oneCell') = true from all_oneCell_toArray (bc_one _))
  have hz := zero32
  have HSo1 := Lib.hid (zero_size.trans (show 256 = (bc x1).toArray.size by rw [List.size_toArray, bc_length, HX1.out]))
  have HSo2 := Lib.hid (zero_size.trans (show 256 = (bc x2).toArray.size by rw [List.size_toArray, bc_length, HX2.out]))
  have HSo3 := Lib.hid (zero_size.trans (show 256 = (bc x3).toArray.size by rw [List.size_toArray, bc_length, HX3.out]))
  generalize (bc zeroB).toArray = Z at *
  have HNW := Lib.hid (new_ok 4 (by omega) (by omega) w)
  go_enter Try.func26, Try.ntmps26
  go_wp2_with fail
  refine HNW.out.mono ?_
  intro e w1 hpost
  obtain ⟨B, S, he, hd, hg, hS⟩ := hpost
  subst he
  have HD := Lib.hid hd
  have HG := Lib.hid hg
  have HL := Lib.hid hS
  clear hd hg hS HNW
  go_wp2_with fail
  refine (HF1.out _).mono ?_
  intro e v1 hpost
  obtain ⟨he, hg⟩ := hpost
  subst he
  have HDa1 := Lib.hid (HD.out.kept (Touch.of_below (S := []) hg) (by simp))
  have HGa1 := Lib.hid (Grow.trans HG.out hg)
  clear hg HD HG
  go_wp2_with fail
  refine (write_ok HDa1.out 1 (by show 1 < 4; omega) x1 HX1.out rfl (by show 0 ≤ 100000; omega) (by show (0 : Int) ≤ 0 ∧ (0 : Int) ≤ 1000000; omega) (by show (0 : Int) ≤ 0 ∧ (0 : Int) ≤ 9223372036854775807; omega)).mono ?_
  intro e u1 hpost
  obtain ⟨he, S1, hd, ht, hS⟩ := hpost
  subst he
  rw [aw1_eq] at hd
  have HD1 := Lib.hid hd
  have HL1 := Lib.hid (show ∀ k ∈ S1, w.heap.size ≤ k from fun k hk => by rcases hS k hk with h | h; exact HL.out k h; exact Nat.le_trans HGa1.out.size h)
  have HG1 := Lib.hid (show Grow w u1 from Below.trans HGa1.out (ht.below HGa1.out.size HL.out))
  clear hd ht hS HDa1 HGa1
  go_wp2_with fail
  refine (HF2.out _).mono ?_
  intro e v2 hpost
  obtain ⟨he, hg⟩ := hpost
  subst he
  have HDa2 := Lib.hid (HD1.out.kept (Touch.of_below (S := []) hg) (by simp))
  have HGa2 := Lib.hid (Grow.trans HG1.out hg)
  clear hg HD1 HG1
  go_wp2_with fail
  refine (write_ok HDa2.out 1 (by show 1 < 4; omega) x2 HX2.out rfl (by show 1 ≤ 100000; omega) (by show (0 : Int) ≤ 1 ∧ (1 : Int) ≤ 1000000; omega) (by show (0 : Int) ≤ 0 ∧ (0 : Int) ≤ 9223372036854775807; omega)).mono ?_
  intro e u2 hpost
  obtain ⟨he, S2, hd, ht, hS⟩ := hpost
  subst he
  rw [aw2_eq] at hd
  have HD2 := Lib.hid hd
  have HL2 := Lib.hid (show ∀ k ∈ S2, w.heap.size ≤ k from fun k hk => by rcases hS k hk with h | h; exact HL1.out k h; exact Nat.le_trans HGa2.out.size h)
  have HG2 := Lib.hid (show Grow w u2 from Below.trans HGa2.out (ht.below HGa2.out.size HL1.out))
  clear hd ht hS HDa2 HGa2
  go_wp2_with fail
  refine (HF3.out _).mono ?_
  intro e v3 hpost
  obtain ⟨he, hg⟩ := hpost
  subst he
  have HDa3 := Lib.hid (HD2.out.kept (Touch.of_below (S := []) hg) (by simp))
  have HGa3 := Lib.hid (Grow.trans HG2.out hg)
  clear hg HD2 HG2
  go_wp2_with fail
  refine (write_ok HDa3.out 2 (by show 2 < 4; omega) x3 HX3.out rfl (by show 2 ≤ 100000; omega) (by show (0 : Int) ≤ 2 ∧ (2 : Int) ≤ 1000000; omega) (by show (0 : Int) ≤ 0 ∧ (0 : Int) ≤ 9223372036854775807; omega)).mono ?_
  intro e u3 hpost
  obtain ⟨he, S3, hd, ht, hS⟩ := hpost
  subst he
  rw [aw3_eq] at hd
  have HD3 := Lib.hid hd
  have HL3 := Lib.hid (show ∀ k ∈ S3, w.heap.size ≤ k from fun k hk => by rcases hS k hk with h | h; exact HL2.out k h; exact Nat.le_trans HGa3.out.size h)
  have HG3 := Lib.hid (show Grow w u3 from Below.trans HGa3.out (ht.below HGa3.out.size HL2.out))
  clear hd ht hS HDa3 HGa3
  go_wp2_with fail
  refine (waiting_any HD3.out).mono ?_
  intro e w' hpost
  obtain ⟨he, hw⟩ := hpost
  subst he hw
  rw [show (((aw3 x1 x2 x3).ws.length : Nat) : Int) = 3 from rfl]
  go_wp2_with fail
  refine (show Calls Try.prog 19 #[.pointer (some ⟨B, 0, none⟩), .int .i64 1] _ _ from read_ok HD3.out 1 (by show 1 < 4; omega) rfl).mono ?_
  intro e r1 hpost
  obtain ⟨he, hg⟩ := hpost
  rw [show (aw3 x1 x2 x3).last[1]'(by show 1 < 4; omega) = x2 from rfl] at he
  subst he
  have HDr1 := Lib.hid (HD3.out.kept (Touch.of_below (S := []) hg) (by simp))
  have HGr1 := Lib.hid (Grow.trans HG3.out hg)
  clear hg HD3 HG3
  go_wp2_with (refine wpList_store_row rfl 32 _ _ rfl r1.heap.size (bc x2).toArray rfl rfl 32 Z (heap_alloc_last _ _) HS2.out HSo2.out HO2.out ?_)
  have ht : Touch [] r1 ((r1.alloc (.cells Z 32)).setRow r1.heap.size (bc x2).toArray) := Touch.of_below (below_setRow ((Below.refl _ _).alloc (Nat.le_refl _) _) (Nat.le_refl _) _)
  have HH1 := Lib.hid (show r1.heap.size < ((r1.alloc (.cells Z 32)).setRow r1.heap.size (bc x2).toArray).heap.size ∧ ((r1.alloc (.cells Z 32)).setRow r1.heap.size (bc x2).toArray).heap[r1.heap.size]? = some (.cells (bc x2).toArray 32 (0, 0)) from ⟨by simp, setRow_heap _ _ _ _ _ _ (heap_alloc_last _ _)⟩)
  have HDs1 := Lib.hid (HDr1.out.kept ht (by simp))
  have HGs1 := Lib.hid (Grow.trans HGr1.out (ht.below (Nat.le_refl _) (by simp)))
  have HQS := Lib.hid (show ((r1.alloc (.cells Z 32)).setRow r1.heap.size (bc x2).toArray).heap.size = r1.heap.size + 1 by simp)
  have HPS := Lib.hid (show r1.heap.size ∉ S3 from fun hm => Nat.lt_irrefl _ (HDr1.out.lt _ hm))
  clear ht HDr1 HGr1
  generalize (r1.alloc (.cells Z 32)).setRow r1.heap.size (bc x2).toArray = q1 at *
  obtain ⟨P1, hP⟩ : ∃ P, P = r1.heap.size := ⟨_, rfl⟩
  rw [← hP] at HH1 HPS HQS
  rw [← hP]
  clear hP
  have HBL := Lib.hid (show Bools (q1.alloc (.cells #[.bool true, .bool false, .bool true] 4)) S3 (.slice (some ⟨P1 + 1, 0, none⟩) 3 3) [true, false, true] by have := bools3 q1 S3 HDs1.out.lt; rw [HQS.out] at this; exact this)
  have HDc := Lib.hid (HDs1.out.kept (Touch.alloc [] q1 (.cells #[.bool true, .bool false, .bool true] 4)) (by simp))
  have HGc := Lib.hid (HGs1.out.trans (Grow.alloc q1 (.cells #[.bool true, .bool false, .bool true] 4)))
  have HHc := Lib.hid (show P1 < (q1.alloc (.cells #[.bool true, .bool false, .bool true] 4)).heap.size ∧ (q1.alloc (.cells #[.bool true, .bool false, .bool true] 4)).heap[P1]? = some (.cells (bc x2).toArray 32 (0, 0)) from ⟨by have := HH1.out.1; simp; omega, (Below.heap_alloc _ _ _ HH1.out.1).trans HH1.out.2⟩)
  go_wp2_with fail
  generalize q1.alloc (.cells #[.bool true, .bool false, .bool true] 4) = q4 at *
  refine (show Calls Try.prog 25 #[.pointer (some ⟨B, 0, none⟩), .slice (some ⟨P1 + 1, 0, none⟩) 3 3] q4 _ from crash_ok HDc.out _ [true, false, true] HBL.out bools3_le (aw3_in x1 x2 x3) (aw3_le x1 x2 x3)).mono ?_
  intro e q5 hpost
  obtain ⟨⟨ve, he⟩, hd, ht⟩ := hpost
  subst he
  rw [aw4_eq] at hd
  have HD4 := Lib.hid hd
  have HG4 := Lib.hid (show Grow w q5 from Below.trans HGc.out (ht.below HGc.out.size HL3.out))
  have HH1 := Lib.hid (show P1 < q5.heap.size ∧ q5.heap[P1]? = some (.cells (bc x2).toArray 32 (0, 0)) from ⟨Nat.lt_of_lt_of_le HHc.out.1 ht.size, (ht.block _ HHc.out.1 HPS.out).trans HHc.out.2⟩)
  clear hd ht HDc HGc HHc HBL
  go_wp2_with fail
  refine (show Calls Try.prog 19 #[.pointer (some ⟨B, 0, none⟩), .int .i64 1] _ _ from read_ok HD4.out 1 (by show 1 < 4; omega) rfl).mono ?_
  intro e r2 hpost
  obtain ⟨he, hg⟩ := hpost
  rw [show (aw4 x1 x2 x3).last[1]'(by show 1 < 4; omega) = x1 from rfl] at he
  subst he
  have HDr2 := Lib.hid (HD4.out.kept (Touch.of_below (S := []) hg) (by simp))
  have HGr2 := Lib.hid (Grow.trans HG4.out hg)
  have HQ12 := Lib.hid (show P1 < r2.heap.size ∧ r2.heap[P1]? = some (.cells (bc x2).toArray 32 (0, 0)) from ⟨Nat.lt_of_lt_of_le HH1.out.1 hg.size, (hg.block _ HH1.out.1).trans HH1.out.2⟩)
  clear hg HD4 HG4 HH1
  go_wp2_with (refine wpList_store_row rfl 32 _ _ rfl r2.heap.size (bc x1).toArray rfl rfl 32 Z (heap_alloc_last _ _) HS1.out HSo1.out HO1.out ?_)
  have ht : Touch [] r2 ((r2.alloc (.cells Z 32)).setRow r2.heap.size (bc x1).toArray) := Touch.of_below (below_setRow ((Below.refl _ _).alloc (Nat.le_refl _) _) (Nat.le_refl _) _)
  have HH2 := Lib.hid (show r2.heap.size < ((r2.alloc (.cells Z 32)).setRow r2.heap.size (bc x1).toArray).heap.size ∧ ((r2.alloc (.cells Z 32)).setRow r2.heap.size (bc x1).toArray).heap[r2.heap.size]? = some (.cells (bc x1).toArray 32 (0, 0)) from ⟨by simp, setRow_heap _ _ _ _ _ _ (heap_alloc_last _ _)⟩)
  have HDs2 := Lib.hid (HDr2.out.kept ht (by simp))
  have HGs2 := Lib.hid (Grow.trans HGr2.out (ht.below (Nat.le_refl _) (by simp)))
  have HH1 := Lib.hid (show P1 < ((r2.alloc (.cells Z 32)).setRow r2.heap.size (bc x1).toArray).heap.size ∧ ((r2.alloc (.cells Z 32)).setRow r2.heap.size (bc x1).toArray).heap[P1]? = some (.cells (bc x2).toArray 32 (0, 0)) from ⟨Nat.lt_of_lt_of_le HQ12.out.1 ht.size, (ht.block _ HQ12.out.1 (by simp)).trans HQ12.out.2⟩)
  clear ht HDr2 HGr2 HQ12
  generalize (r2.alloc (.cells Z 32)).setRow r2.heap.size (bc x1).toArray = q2 at *
  obtain ⟨P2, hP⟩ : ∃ P, P = r2.heap.size := ⟨_, rfl⟩
  rw [← hP] at HH2
  rw [← hP]
  clear hP
  refine (show Calls Try.prog 19 #[.pointer (some ⟨B, 0, none⟩), .int .i64 2] _ _ from read_ok HDs2.out 2 (by show 2 < 4; omega) rfl).mono ?_
  intro e r3 hpost
  obtain ⟨he, hg⟩ := hpost
  rw [show (aw4 x1 x2 x3).last[2]'(by show 2 < 4; omega) = x3 from rfl] at he
  subst he
  have HDr3 := Lib.hid (HDs2.out.kept (Touch.of_below (S := []) hg) (by simp))
  have HGr3 := Lib.hid (Grow.trans HGs2.out hg)
  have HQ13 := Lib.hid (show P1 < r3.heap.size ∧ r3.heap[P1]? = some (.cells (bc x2).toArray 32 (0, 0)) from ⟨Nat.lt_of_lt_of_le HH1.out.1 hg.size, (hg.block _ HH1.out.1).trans HH1.out.2⟩)
  have HQ23 := Lib.hid (show P2 < r3.heap.size ∧ r3.heap[P2]? = some (.cells (bc x1).toArray 32 (0, 0)) from ⟨Nat.lt_of_lt_of_le HH2.out.1 hg.size, (hg.block _ HH2.out.1).trans HH2.out.2⟩)
  clear hg HDs2 HGs2 HH1 HH2
  go_wp2_with (refine wpList_store_row rfl 32 _ _ rfl r3.heap.size (bc x3).toArray rfl rfl 32 Z (heap_alloc_last _ _) HS3.out HSo3.out HO3.out ?_)
  have ht : Touch [] r3 ((r3.alloc (.cells Z 32)).setRow r3.heap.size (bc x3).toArray) := Touch.of_below (below_setRow ((Below.refl _ _).alloc (Nat.le_refl _) _) (Nat.le_refl _) _)
  have HH3 := Lib.hid (show r3.heap.size < ((r3.alloc (.cells Z 32)).setRow r3.heap.size (bc x3).toArray).heap.size ∧ ((r3.alloc (.cells Z 32)).setRow r3.heap.size (bc x3).toArray).heap[r3.heap.size]? = some (.cells (bc x3).toArray 32 (0, 0)) from ⟨by simp, setRow_heap _ _ _ _ _ _ (heap_alloc_last _ _)⟩)
  have HDs3 := Lib.hid (HDr3.out.kept ht (by simp))
  have HGs3 := Lib.hid (Grow.trans HGr3.out (ht.below (Nat.le_refl _) (by simp)))
  have HH1 := Lib.hid (show P1 < ((r3.alloc (.cells Z 32)).setRow r3.heap.size (bc x3).toArray).heap.size ∧ ((r3.alloc (.cells Z 32)).setRow r3.heap.size (bc x3).toArray).heap[P1]? = some (.cells (bc x2).toArray 32 (0, 0)) from ⟨Nat.lt_of_lt_of_le HQ13.out.1 ht.size, (ht.block _ HQ13.out.1 (by simp)).trans HQ13.out.2⟩)
  have HH2 := Lib.hid (show P2 < ((r3.alloc (.cells Z 32)).setRow r3.heap.size (bc x3).toArray).heap.size ∧ ((r3.alloc (.cells Z 32)).setRow r3.heap.size (bc x3).toArray).heap[P2]? = some (.cells (bc x1).toArray 32 (0, 0)) from ⟨Nat.lt_of_lt_of_le HQ23.out.1 ht.size, (ht.block _ HQ23.out.1 (by simp)).trans HQ23.out.2⟩)
  clear ht HDr3 HGr3 HQ13 HQ23
  generalize (r3.alloc (.cells Z 32)).setRow r3.heap.size (bc x3).toArray = q3 at *
  obtain ⟨P3, hP⟩ : ∃ P, P = r3.heap.size := ⟨_, rfl⟩
  rw [← hP] at HH3
  rw [← hP]
  clear hP
  refine wp_region_facts (by kernel_rfl) [[], [(0, some 49)], [(1, some 50)], [(2, some 51)], [(2, some 51)], [(2, some 51), (3, some 52), (4, some 53)], [(2, some 51), (5, some 54)], [(4, some 53), (6, some 55)], [(7, some 56)], [(7, some 56)], [(7, some 56), (8, some 57), (9, some 58)], [(7, some 56), (10, some 59)], [(9, some 58), (11, some 60)], [(12, some 61)], [(12, some 61)], [(12, some 61), (13, some 62), (14, some 63)], [(12, some 61), (15, some 64)], [(0, some 49), (1, some 50), (2, some 51), (3, some 52), (4, some 53), (5, some 54), (6, some 55), (7, some 56), (8, some 57), (9, some 58), (10, some 59), (11, some 60), (12, some 61), (13, some 62), (14, some 63), (15, some 64), (16, some 65)]] [(0, some 49), (1, some 50), (2, some 51), (3, some 52), (4, some 53), (5, some 54), (6, some 55), (7, some 56), (8, some 57), (9, some 58), (10, some 59), (11, some 60), (12, some 61), (13, some 62), (14, some 63), (15, some 64), (16, some 65), (17, some 0)] (by kernel_rfl) (by kernel_rfl) (by kernel_rfl) (Touch []) (Touch.refl []) (fun _ _ _ h h' => h.trans h' (fun i hi => .inl hi)) [Is (Value.int .i64 3), Is (Value.bool true), Is (Value.bool true), Is (Value.agg (bc x2).toArray), Is (Value.agg (bc x2).toArray), Is (Value.bool true), Is (Value.bool true), Is (Value.bool true), Is (Value.agg (bc x1).toArray), Is (Value.agg (bc x1).toArray), Is (Value.bool true), Is (Value.bool true), Is (Value.bool true), Is (Value.agg (bc x3).toArray), Is (Value.agg (bc x3).toArray), Is (Value.bool true), Is (Value.bool true), Is (Value.bool true)] rfl ⟨is_stab _ _, is_stab _ _, is_stab _ _, is_stab _ _, is_stab _ _, is_stab _ _, is_stab _ _, is_stab _ _, is_stab _ _, is_stab _ _, is_stab _ _, is_stab _ _, is_stab _ _, is_stab _ _, is_stab _ _, is_stab _ _, is_stab _ _, is_stab _ _, trivial⟩ ⟨?o0, ?o1, ?o2, ?o3, ?o4, ?o5, ?o6, ?o7, ?o8, ?o9, ?o10, ?o11, ?o12, ?o13, ?o14, ?o15, ?o16, ?o17, trivial⟩ ?_
  case o0 =>
    intro vals wq hRq hpq
    simp only [List.getD_cons_zero, List.getD_cons_succ, canonP]
    simp only [Oper.gives]
    go_simp
    exact ⟨is_mk _ _, (Touch.refl []) _⟩
  case o1 =>
    intro vals wq hRq hpq
    simp only [factsP, List.getD_cons_zero, List.getD_cons_succ] at hpq
    have f0 := hpq.1
    replace hpq := hpq.2
    clear hpq
    replace f0 : vals 0 = _ := f0
    simp only [List.getD_cons_zero, List.getD_cons_succ, canonP, f0]
    clear f0
    simp only [Oper.gives]
    go_simp
    exact ⟨is_mk _ _, (Touch.refl []) _⟩
  case o2 =>
    intro vals wq hRq hpq
    simp only [factsP, List.getD_cons_zero, List.getD_cons_succ] at hpq
    have f1 := hpq.1
    replace hpq := hpq.2
    clear hpq
    replace f1 : vals 1 = _ := f1
    simp only [List.getD_cons_zero, List.getD_cons_succ, canonP, f1]
    clear f1
    simp only [Oper.gives]
    go_simp
    exact ⟨is_mk _ _, (Touch.refl []) _⟩
  case o3 =>
    intro vals wq hRq hpq
    simp only [factsP, List.getD_cons_zero, List.getD_cons_succ] at hpq
    have f2 := hpq.1
    replace hpq := hpq.2
    clear hpq
    replace f2 : vals 2 = _ := f2
    simp only [List.getD_cons_zero, List.getD_cons_succ, canonP, f2]
    clear f2
    rw [if_pos (by rfl)]
    exact gives_load_row 32 _ rfl P1 rfl 32 (bc x2).toArray (0, 0) _ ((hRq.block _ HH1.out.1 (by simp)).trans HH1.out.2) Try.underlying32 rfl HS2.out ⟨is_mk _ _, Touch.refl _ _⟩
  case o4 =>
    intro vals wq hRq hpq
    simp only [factsP, List.getD_cons_zero, List.getD_cons_succ] at hpq
    have f2 := hpq.1
    replace hpq := hpq.2
    clear hpq
    replace f2 : vals 2 = _ := f2
    simp only [List.getD_cons_zero, List.getD_cons_succ, canonP, f2]
    clear f2
    simp only [Oper.gives]
    go_simp
    exact (HF2.out wq).mono fun e w' ⟨he, hg⟩ => ⟨_, he, is_mk _ _, Touch.of_below hg⟩
  case o5 =>
    intro vals wq hRq hpq
    simp only [factsP, List.getD_cons_zero, List.getD_cons_succ] at hpq
    have f2 := hpq.1
    replace hpq := hpq.2
    have f3 := hpq.1
    replace hpq := hpq.2
    have f4 := hpq.1
    replace hpq := hpq.2
    clear hpq
    replace f2 : vals 2 = _ := f2
    replace f3 : vals 3 = _ := f3
    replace f4 : vals 4 = _ := f4
    simp only [List.getD_cons_zero, List.getD_cons_succ, canonP, f2, f3, f4]
    clear f2 f3 f4
    rw [if_pos (by rfl)]
    exact gives_binOp .eql 32 _ _ 32 rfl _ _ rfl rfl (guard32e _ _ _ _ wq) (eql32 x2 HX2.out wq) ⟨is_mk _ _, Touch.refl _ _⟩
  case o6 =>
    intro vals wq hRq hpq
    simp only [factsP, List.getD_cons_zero, List.getD_cons_succ] at hpq
    have f2 := hpq.1
    replace hpq := hpq.2
    have f5 := hpq.1
    replace hpq := hpq.2
    clear hpq
    replace f2 : vals 2 = _ := f2
    replace f5 : vals 5 = _ := f5
    simp only [List.getD_cons_zero, List.getD_cons_succ, canonP, f2, f5]
    clear f2 f5
    simp only [Oper.gives]
    go_simp
    exact ⟨is_mk _ _, (Touch.refl []) _⟩
  case o7 =>
    intro vals wq hRq hpq
    simp only [factsP, List.getD_cons_zero, List.getD_cons_succ] at hpq
    have f4 := hpq.1
    replace hpq := hpq.2
    have f6 := hpq.1
    replace hpq := hpq.2
    clear hpq
    replace f4 : vals 4 = _ := f4
    replace f6 : vals 6 = _ := f6
    simp only [List.getD_cons_zero, List.getD_cons_succ, canonP, f4, f6]
    clear f4 f6
    simp only [Oper.gives]
    go_simp
    exact ⟨is_mk _ _, (Touch.refl []) _⟩
  case o8 =>
    intro vals wq hRq hpq
    simp only [factsP, List.getD_cons_zero, List.getD_cons_succ] at hpq
    have f7 := hpq.1
    replace hpq := hpq.2
    clear hpq
    replace f7 : vals 7 = _ := f7
    simp only [List.getD_cons_zero, List.getD_cons_succ, canonP, f7]
    clear f7
    rw [if_pos (by rfl)]
    exact gives_load_row 32 _ rfl P2 rfl 32 (bc x1).toArray (0, 0) _ ((hRq.block _ HH2.out.1 (by simp)).trans HH2.out.2) Try.underlying32 rfl HS1.out ⟨is_mk _ _, Touch.refl _ _⟩
  case o9 =>
    intro vals wq hRq hpq
    simp only [factsP, List.getD_cons_zero, List.getD_cons_succ] at hpq
    have f7 := hpq.1
    replace hpq := hpq.2
    clear hpq
    replace f7 : vals 7 = _ := f7
    simp only [List.getD_cons_zero, List.getD_cons_succ, canonP, f7]
    clear f7
    simp only [Oper.gives]
    go_simp
    exact (HF1.out wq).mono fun e w' ⟨he, hg⟩ => ⟨_, he, is_mk _ _, Touch.of_below hg⟩
  case o10 =>
    intro vals wq hRq hpq
    simp only [factsP, List.getD_cons_zero, List.getD_cons_succ] at hpq
    have f7 := hpq.1
    replace hpq := hpq.2
    have f8 := hpq.1
    replace hpq := hpq.2
    have f9 := hpq.1
    replace hpq := hpq.2
    clear hpq
    replace f7 : vals 7 = _ := f7
    replace f8 : vals 8 = _ := f8
    replace f9 : vals 9 = _ := f9
    simp only [List.getD_cons_zero, List.getD_cons_succ, canonP, f7, f8, f9]
    clear f7 f8 f9
    rw [if_pos (by rfl)]
    exact gives_binOp .eql 32 _ _ 32 rfl _ _ rfl rfl (guard32e _ _ _ _ wq) (eql32 x1 HX1.out wq) ⟨is_mk _ _, Touch.refl _ _⟩
  case o11 =>
    intro vals wq hRq hpq
    simp only [factsP, List.getD_cons_zero, List.getD_cons_succ] at hpq
    have f7 := hpq.1
    replace hpq := hpq.2
    have f10 := hpq.1
    replace hpq := hpq.2
    clear hpq
    replace f7 : vals 7 = _ := f7
    replace f10 : vals 10 = _ := f10
    simp only [List.getD_cons_zero, List.getD_cons_succ, canonP, f7, f10]
    clear f7 f10
    simp only [Oper.gives]
    go_simp
    exact ⟨is_mk _ _, (Touch.refl []) _⟩
  case o12 =>
    intro vals wq hRq hpq
    simp only [factsP, List.getD_cons_zero, List.getD_cons_succ] at hpq
    have f9 := hpq.1
    replace hpq := hpq.2
    have f11 := hpq.1
    replace hpq := hpq.2
    clear hpq
    replace f9 : vals 9 = _ := f9
    replace f11 : vals 11 = _ := f11
    simp only [List.getD_cons_zero, List.getD_cons_succ, canonP, f9, f11]
    clear f9 f11
    simp only [Oper.gives]
    go_simp
    exact ⟨is_mk _ _, (Touch.refl []) _⟩
  case o13 =>
    intro vals wq hRq hpq
    simp only [factsP, List.getD_cons_zero, List.getD_cons_succ] at hpq
    have f12 := hpq.1
    replace hpq := hpq.2
    clear hpq
    replace f12 : vals 12 = _ := f12
    simp only [List.getD_cons_zero, List.getD_cons_succ, canonP, f12]
    clear f12
    rw [if_pos (by rfl)]
    exact gives_load_row 32 _ rfl P3 rfl 32 (bc x3).toArray (0, 0) _ ((hRq.block _ HH3.out.1 (by simp)).trans HH3.out.2) Try.underlying32 rfl HS3.out ⟨is_mk _ _, Touch.refl _ _⟩
  case o14 =>
    intro vals wq hRq hpq
    simp only [factsP, List.getD_cons_zero, List.getD_cons_succ] at hpq
    have f12 := hpq.1
    replace hpq := hpq.2
    clear hpq
    replace f12 : vals 12 = _ := f12
    simp only [List.getD_cons_zero, List.getD_cons_succ, canonP, f12]
    clear f12
    simp only [Oper.gives]
    go_simp
    exact (HF3.out wq).mono fun e w' ⟨he, hg⟩ => ⟨_, he, is_mk _ _, Touch.of_below hg⟩
  case o15 =>
    intro vals wq hRq hpq
    simp only [factsP, List.getD_cons_zero, List.getD_cons_succ] at hpq
    have f12 := hpq.1
    replace hpq := hpq.2
    have f13 := hpq.1
    replace hpq := hpq.2
    have f14 := hpq.1
    replace hpq := hpq.2
    clear hpq
    replace f12 : vals 12 = _ := f12
    replace f13 : vals 13 = _ := f13
    replace f14 : vals 14 = _ := f14
    simp only [List.getD_cons_zero, List.getD_cons_succ, canonP, f12, f13, f14]
    clear f12 f13 f14
    rw [if_pos (by rfl)]
    exact gives_binOp .eql 32 _ _ 32 rfl _ _ rfl rfl (guard32e _ _ _ _ wq) (eql32 x3 HX3.out wq) ⟨is_mk _ _, Touch.refl _ _⟩
  case o16 =>
    intro vals wq hRq hpq
    simp only [factsP, List.getD_cons_zero, List.getD_cons_succ] at hpq
    have f12 := hpq.1
    replace hpq := hpq.2
    have f15 := hpq.1
    replace hpq := hpq.2
    clear hpq
    replace f12 : vals 12 = _ := f12
    replace f15 : vals 15 = _ := f15
    simp only [List.getD_cons_zero, List.getD_cons_succ, canonP, f12, f15]
    clear f12 f15
    simp only [Oper.gives]
    go_simp
    exact ⟨is_mk _ _, (Touch.refl []) _⟩
  case o17 =>
    intro vals wq hRq hpq
    simp only [factsP, List.getD_cons_zero, List.getD_cons_succ] at hpq
    have f0 := hpq.1
    replace hpq := hpq.2
    have f1 := hpq.1
    replace hpq := hpq.2
    have f2 := hpq.1
    replace hpq := hpq.2
    have f3 := hpq.1
    replace hpq := hpq.2
    have f4 := hpq.1
    replace hpq := hpq.2
    have f5 := hpq.1
    replace hpq := hpq.2
    have f6 := hpq.1
    replace hpq := hpq.2
    have f7 := hpq.1
    replace hpq := hpq.2
    have f8 := hpq.1
    replace hpq := hpq.2
    have f9 := hpq.1
    replace hpq := hpq.2
    have f10 := hpq.1
    replace hpq := hpq.2
    have f11 := hpq.1
    replace hpq := hpq.2
    have f12 := hpq.1
    replace hpq := hpq.2
    have f13 := hpq.1
    replace hpq := hpq.2
    have f14 := hpq.1
    replace hpq := hpq.2
    have f15 := hpq.1
    replace hpq := hpq.2
    have f16 := hpq.1
    replace hpq := hpq.2
    clear hpq
    replace f0 : vals 0 = _ := f0
    replace f1 : vals 1 = _ := f1
    replace f2 : vals 2 = _ := f2
    replace f3 : vals 3 = _ := f3
    replace f4 : vals 4 = _ := f4
    replace f5 : vals 5 = _ := f5
    replace f6 : vals 6 = _ := f6
    replace f7 : vals 7 = _ := f7
    replace f8 : vals 8 = _ := f8
    replace f9 : vals 9 = _ := f9
    replace f10 : vals 10 = _ := f10
    replace f11 : vals 11 = _ := f11
    replace f12 : vals 12 = _ := f12
    replace f13 : vals 13 = _ := f13
    replace f14 : vals 14 = _ := f14
    replace f15 : vals 15 = _ := f15
    replace f16 : vals 16 = _ := f16
    simp only [List.getD_cons_zero, List.getD_cons_succ, canonP, f0, f1, f2, f3, f4, f5, f6, f7, f8, f9, f10, f11, f12, f13, f14, f15, f16]
    clear f0 f1 f2 f3 f4 f5 f6 f7 f8 f9 f10 f11 f12 f13 f14 f15 f16
    simp only [Oper.gives]
    go_simp
    exact ⟨is_mk _ _, (Touch.refl []) _⟩
  intro vals wz hRwz hfwz
  simp only [AllFacts] at hfwz
  have g0 := hfwz.1
  replace hfwz := hfwz.2
  have g1 := hfwz.1
  replace hfwz := hfwz.2
  have g2 := hfwz.1
  replace hfwz := hfwz.2
  have g3 := hfwz.1
  replace hfwz := hfwz.2
  have g4 := hfwz.1
  replace hfwz := hfwz.2
  have g5 := hfwz.1
  replace hfwz := hfwz.2
  have g6 := hfwz.1
  replace hfwz := hfwz.2
  have g7 := hfwz.1
  replace hfwz := hfwz.2
  have g8 := hfwz.1
  replace hfwz := hfwz.2
  have g9 := hfwz.1
  replace hfwz := hfwz.2
  have g10 := hfwz.1
  replace hfwz := hfwz.2
  have g11 := hfwz.1
  replace hfwz := hfwz.2
  have g12 := hfwz.1
  replace hfwz := hfwz.2
  have g13 := hfwz.1
  replace hfwz := hfwz.2
  have g14 := hfwz.1
  replace hfwz := hfwz.2
  have g15 := hfwz.1
  replace hfwz := hfwz.2
  have g16 := hfwz.1
  replace hfwz := hfwz.2
  have g17 := hfwz.1
  replace hfwz := hfwz.2
  clear hfwz
  replace g0 : vals 0 = _ := g0
  replace g1 : vals 1 = _ := g1
  replace g2 : vals 2 = _ := g2
  replace g3 : vals 3 = _ := g3
  replace g4 : vals 4 = _ := g4
  replace g5 : vals 5 = _ := g5
  replace g6 : vals 6 = _ := g6
  replace g7 : vals 7 = _ := g7
  replace g8 : vals 8 = _ := g8
  replace g9 : vals 9 = _ := g9
  replace g10 : vals 10 = _ := g10
  replace g11 : vals 11 = _ := g11
  replace g12 : vals 12 = _ := g12
  replace g13 : vals 13 = _ := g13
  replace g14 : vals 14 = _ := g14
  replace g15 : vals 15 = _ := g15
  replace g16 : vals 16 = _ := g16
  replace g17 : vals 17 = _ := g17
  simp only [canonP, Act.put, List.setIfInBounds_toArray, List.set_cons_succ, List.set_cons_zero, g0, g1, g2, g3, g4, g5, g6, g7, g8, g9, g10, g11, g12, g13, g14, g15, g16, g17]
  clear g0 g1 g2 g3 g4 g5 g6 g7 g8 g9 g10 g11 g12 g13 g14 g15 g16 g17
  have HGf := Lib.hid (HGs3.out.trans (((Touch.drew [] _).trans hRwz (by simp)).below (Nat.le_refl _) (by simp)))
  clear hRwz
  go_wp2_with fail
  go_ret
  exact ⟨rfl, HGf.out⟩
#print axioms awake_ok
end Go.Proofs.Ytkcbjhdklenlbaa
