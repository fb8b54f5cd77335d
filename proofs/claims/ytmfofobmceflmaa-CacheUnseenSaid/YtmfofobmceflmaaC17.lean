/- The laws' awake: the walk. -/
import Derived.Test.YtmfofobmceflmaaC12
set_option linter.unusedVariables false
set_option linter.unusedSimpArgs false
namespace Go.Proofs.Ytmfofobmceflmaa
open Go.RowKit Go.Maps

theorem mk_one (w : World) : (Instr.buildSlice 28 1 #[(0, .int .i64 1)]).run Try.prog w = .ok (.slice (some ⟨w.heap.size, 0, none⟩) 1 1) (w.alloc (.cells #[.int .i64 1] 3)) := by kernel_rfl
theorem irow_one (w : World) (x : Int) : IRow (w.alloc (.cells #[.int .i64 x] 3)) (.slice (some ⟨w.heap.size, 0, none⟩) 1 1) [x] := by
  refine ⟨fun c hc => ?_, by simp [icell], .inr ⟨w.heap.size, 1, _, rfl, Nat.zero_le _, heap_alloc_last _ _, by simp, by unfold maxLen; omega, by simp, by simp [icell]⟩⟩
  obtain ⟨z, _, rfl⟩ := List.mem_map.1 hc
  rfl
/-- the cache behind the two writes -/
def awS (x1 x2 : Blk) : CS := { newC (newD 4) with f := putF (putF (fun _ => none) 1 (x1, true)) 3 (x2, true) }
theorem aw_dirty (x1 x2 : Blk) : selL 4 (isDirty (awS x1 x2).f) = [1, 3] := rfl
theorem aw_pick : pickI [1, 3] 5 = 3 := rfl
theorem aw_back (x1 x2 : Blk) : (awS x1 x2).back 3 = { d := (newD 4).wrote 3 x2, f := putF (awS x1 x2).f 3 (x2, false), p := fun _ => false } := rfl
theorem aw_dirty2 (x1 x2 : Blk) : selL 4 (isDirty (putF (awS x1 x2).f 3 (x2, false))) = [1] := rfl
theorem aw_read (x2 : Blk) : ((newD 4).wrote 3 x2).last[3]? = some x2 := rfl
set_option maxRecDepth 100000 in
set_option maxHeartbeats 4000000 in
theorem awake_ok (w : World) : Calls Try.prog 27 #[] w fun e w' => e = .returned (.bool true) ∧ Grow w w' := by
  have HF1 := Lib.hid (fun w => fill_any 1 (by omega) w)
  have HX1 := Lib.hid (fillB_length 1)
  have HFI := Lib.hid (fun w => fill_any 2 (by omega) w)
  have HX := Lib.hid (fillB_length 2)
  generalize fillB 1 = x1 at *
  generalize fillB 2 = x at *
  have hz := zero32
  have hzs := zero_size
  have HSz := Lib.hid (bsize HX.out)
  have HO := Lib.hid (show (bc x).toArray.all (·.oneCell') = true from all_oneCell_toArray (bc_one _))
  have HEQ := Lib.hid (equal32 x HX.out)
  generalize (bc zeroB).toArray = Z at *
  have HSo := Lib.hid (show Z.size = (bc x).toArray.size from hzs.trans (show 256 = (bc x).toArray.size by rw [List.size_toArray, bc_length, HX.out]))
  clear hzs
  go_enter Try.func27, Try.ntmps27
  go_wp2_with fail
  refine (show Calls Try.prog 28 #[.int .i64 4] _ _ from new_ok 4 (by omega) (by omega) _).mono ?_
  intro e w1 hpost
  obtain ⟨B, S, he, hd, hg, hS⟩ := hpost
  subst he
  have HD := Lib.hid hd
  have HG := Lib.hid hg
  have HS := Lib.hid hS
  clear hd hg hS
  go_wp2_with fail
  refine (cnew_ok HD.out).mono ?_
  intro e w2 hpost
  obtain ⟨C, U, he, hc, hg, hU⟩ := hpost
  subst he
  have HC := Lib.hid hc
  have HG2 := Lib.hid (HG.out.trans hg)
  have HU := Lib.hid (show ∀ j ∈ U, w.heap.size ≤ j from fun j hj => by
    rcases hU j hj with h | h
    · exact HS.out j h
    · exact Nat.le_trans HG.out.size h)
  clear hc hg hU
  go_wp2_with fail
  refine (HF1.out _).mono ?_
  intro e w3 hpost
  obtain ⟨he, hg3⟩ := hpost
  subst he
  have HC3 := Lib.hid (HC.out.grow hg3)
  have HG3 := Lib.hid (HG2.out.trans hg3)
  clear hg3 HC HG2
  go_wp2_with fail
  refine (show Calls Try.prog 24 #[.pointer (some ⟨C, 0, none⟩), .int .i64 1, .agg (bc x1).toArray] _ _ from cwrite_ok HC3.out (by omega) 1 (show 1 < (newD 4).safe.length by decide) x1 HX1.out).mono ?_
  intro e w4 hpost
  obtain ⟨he, hc4, ht4⟩ := hpost
  subst he
  have HC4 := Lib.hid hc4
  have HG4 := Lib.hid (show Grow w w4 from Below.trans HG3.out (ht4.below HG3.out.size HU.out))
  clear hc4 ht4 HC3 HG3
  go_wp2_with fail
  refine (HFI.out _).mono ?_
  intro e w5 hpost
  obtain ⟨he, hg5⟩ := hpost
  subst he
  have HC5 := Lib.hid (HC4.out.grow hg5)
  have HG5 := Lib.hid (HG4.out.trans hg5)
  clear hg5 HC4 HG4
  go_wp2_with fail
  refine (show Calls Try.prog 24 #[.pointer (some ⟨C, 0, none⟩), .int .i64 3, .agg (bc x).toArray] _ _ from cwrite_ok HC5.out (by omega) 3 (show 3 < (newD 4).safe.length by decide) x HX.out).mono ?_
  intro e w6 hpost
  obtain ⟨he, hc6, ht6⟩ := hpost
  subst he
  have HC6 := Lib.hid (show IsCache w6 C B U 2 (awS x1 x) from hc6)
  have HG6 := Lib.hid (show Grow w w6 from Below.trans HG5.out (ht6.below HG5.out.size HU.out))
  have HGD := Lib.hid (show CGood 4 0 (awS x1 x) from (CGood.new 4).same rfl)
  have HWB := Lib.hid (by
    have := wb_ok HC6.out (by omega) HGD.out (by omega) 5 (by omega)
    unfold WbPost CS.wb at this
    rw [show selL (awS x1 x).d.safe.length (isDirty (awS x1 x).f) = [1, 3] from aw_dirty x1 x] at this
    exact this)
  clear hc6 ht6 HC5 HG5
  go_wp2_with fail
  refine HWB.out.mono ?_
  intro e w7 hpost
  obtain ⟨he, U7, hc7, ht7, hu7⟩ := hpost
  replace he : e = .returned (.tuple #[.int .i64 3, .bool true, .int .i64 0]) := by rw [he]; rfl
  subst he
  have HC7 := Lib.hid (show IsCache w7 C B U7 3 { d := (newD 4).wrote 3 x, f := putF (awS x1 x).f 3 (x, false), p := fun _ => false } from hc7)
  have HG7 := Lib.hid (show Grow w w7 from Below.trans HG6.out (ht7.below HG6.out.size HU.out))
  have HU7 := Lib.hid (show ∀ j ∈ U7, w.heap.size ≤ j from fun j hj => by
    rcases hu7 j hj with h | h
    · exact HU.out j h
    · exact Nat.le_trans HG6.out.size h)
  obtain ⟨S7, hdk, _⟩ := HC7.out.disk
  have HDK := Lib.hid hdk
  have HRD := Lib.hid (show Calls Try.prog 13 #[.pointer (some ⟨B, 0, none⟩), .int .i64 3] w7 fun e w' => e = .returned (.tuple #[.agg (bc x).toArray, .int .i64 0]) ∧ Grow w7 w' from read_ok hdk 3 (show 3 < ((newD 4).wrote 3 x).last.length by show 3 < 4; omega) rfl)
  clear hc7 ht7 hu7 hdk HC6 HG6 HWB
  go_wp2_with fail
  refine HRD.out.mono ?_
  intro e w8 hpost
  obtain ⟨he, hg8⟩ := hpost
  subst he
  have HC8 := Lib.hid (HC7.out.grow hg8)
  have HG8 := Lib.hid (HG7.out.trans hg8)
  clear hg8 HC7 HG7 HDK HRD
  go_upto_region 9 with (refine wpList_store_row rfl 32 _ _ rfl w8.heap.size (bc x).toArray rfl rfl 32 Z (heap_alloc_last _ _) HSz.out HSo.out HO.out ?_)
  have hg9 : Grow w8 ((w8.alloc (.cells Z 32)).setRow w8.heap.size (bc x).toArray) := below_setRow ((Below.refl _ _).alloc (Nat.le_refl _) _) (Nat.le_refl _) _
  have HC9 := Lib.hid (HC8.out.grow hg9)
  have HG9 := Lib.hid (HG8.out.trans hg9)
  have HX9 := Lib.hid (show w8.heap.size < ((w8.alloc (.cells Z 32)).setRow w8.heap.size (bc x).toArray).heap.size ∧ ((w8.alloc (.cells Z 32)).setRow w8.heap.size (bc x).toArray).heap[w8.heap.size]? = some (.cells (bc x).toArray 32) from ⟨by simp, setRow_heap _ _ _ _ _ _ (heap_alloc_last _ _)⟩)
  have HNU := Lib.hid (show w8.heap.size ∉ U7 from fun hm => by have := HC8.out.lt _ hm; omega)
  clear hg9 HC8 HG8
  generalize (w8.alloc (.cells Z 32)).setRow w8.heap.size (bc x).toArray = W9 at *
  obtain ⟨BX, hBX⟩ : ∃ g, g = w8.heap.size := ⟨_, rfl⟩
  rw [← hBX] at HX9 HNU
  rw [← hBX]
  clear hBX
  go_wp2_with fail
  refine (show Calls Try.prog 19 #[.pointer (some ⟨C, 0, none⟩), .int .i64 3, .bool true] _ _ from cpin_on HC9.out (by omega) 3 rfl (by unfold IntOk; omega)).mono ?_
  intro e wA hpost
  obtain ⟨⟨ve, he⟩, hcA, htA⟩ := hpost
  subst he
  have HCA := Lib.hid (show IsCache wA C B U7 4 { d := (newD 4).wrote 3 x, f := putF (awS x1 x).f 3 (x, false), p := putP (fun _ => false) 3 } from hcA)
  have HGA := Lib.hid (show Grow w wA from Below.trans HG9.out (htA.below HG9.out.size HU7.out))
  have HCX := Lib.hid (show BX < wA.heap.size ∧ wA.heap[BX]? = some (.cells (bc x).toArray 32) from ⟨Nat.lt_of_lt_of_le HX9.out.1 htA.size, (htA.block BX HX9.out.1 HNU.out).trans HX9.out.2⟩)
  clear hcA htA HC9 HG9 HX9
  go_upto_region 10 with (fail)
  have HDQ := Lib.hid (fun wq (hq : Touch [] wA wq) => by
    have := dirty_ok (HCA.out.kept hq (by simp))
    unfold SelPost at this
    rw [show selL ({ d := (newD 4).wrote 3 x, f := putF (awS x1 x).f 3 (x, false), p := putP (fun _ => false) 3 } : CS).d.safe.length (isDirty ({ d := (newD 4).wrote 3 x, f := putF (awS x1 x).f 3 (x, false), p := putP (fun _ => false) 3 } : CS).f) = [1] from aw_dirty2 x1 x] at this
    exact this)
  have HDP := Lib.hid (fun wq (hq : Touch [] wA wq) => (show Calls Try.prog 20 #[.pointer (some ⟨C, 0, none⟩), .int .i64 3] wq fun e w' => e = .returned (.int .i64 110) ∧ Grow wq w' from cdrop_pinned (HCA.out.kept hq (by simp)) 3 rfl (by unfold IntOk; omega) rfl))
  refine wp_region_facts (by kernel_rfl) [[], [(0, some 44)], [(1, some 45)], [(1, some 45), (2, some 46)], [(1, some 45), (3, some 47)], [(1, some 45), (4, some 48)], [(5, some 49)], [(5, some 49), (6, some 50)], [(5, some 49), (7, some 51)], [(5, some 49), (8, some 52)], [(9, some 53)], [(9, some 53)], [(9, some 53), (10, some 54), (11, some 55)], [(9, some 53), (12, some 56)], [(11, some 55), (13, some 57)], [(14, some 58)], [(14, some 58), (15, some 59)], [(14, some 58)], [(14, some 58), (16, some 60), (17, some 61)], [(14, some 58), (18, some 62)], [(18, some 62), (19, some 63)], [(20, some 64)], [(20, some 64), (21, some 65)], [(20, some 64), (22, some 66)], [(20, some 64), (23, some 67)], [(0, some 44), (1, some 45), (2, some 46), (3, some 47), (4, some 48), (5, some 49), (6, some 50), (7, some 51), (8, some 52), (9, some 53), (10, some 54), (11, some 55), (12, some 56), (13, some 57), (14, some 58), (15, some 59), (16, some 60), (17, some 61), (18, some 62), (19, some 63), (20, some 64), (21, some 65), (22, some 66), (23, some 67), (24, some 68)]] [(0, some 44), (1, some 45), (2, some 46), (3, some 47), (4, some 48), (5, some 49), (6, some 50), (7, some 51), (8, some 52), (9, some 53), (10, some 54), (11, some 55), (12, some 56), (13, some 57), (14, some 58), (15, some 59), (16, some 60), (17, some 61), (18, some 62), (19, some 63), (20, some 64), (21, some 65), (22, some 66), (23, some 67), (24, some 68), (25, some 0)] (by kernel_rfl) (by kernel_rfl) (by kernel_rfl) (Touch []) (Touch.refl []) (fun _ _ _ h h' => h.trans h' (fun i hi => .inl hi)) [Is (Value.bool true), Is (Value.bool true), Is (Value.int .i64 0), Is (Value.bool true), Is (Value.bool true), Is (Value.bool true), Is (Value.int .i64 3), Is (Value.bool true), Is (Value.bool true), Is (Value.bool true), Is (Value.agg (bc x).toArray), Is (Value.agg (bc x).toArray), Is (Value.bool true), Is (Value.bool true), Is (Value.bool true), Is (Value.pointer (some ⟨C, 0, none⟩)), (fun v wx => IRow wx v [1]), (fun v wx => IRow wx v [1]), Is (Value.bool true), Is (Value.bool true), Is (Value.bool true), Is (Value.pointer (some ⟨C, 0, none⟩)), Is (Value.int .i64 110), Is (Value.bool true), Is (Value.bool true), Is (Value.bool true)] rfl ⟨is_stab _ _, is_stab _ _, is_stab _ _, is_stab _ _, is_stab _ _, is_stab _ _, is_stab _ _, is_stab _ _, is_stab _ _, is_stab _ _, is_stab _ _, is_stab _ _, is_stab _ _, is_stab _ _, is_stab _ _, is_stab _ _, (fun v w w' h1 h2 => Row.kept h2 h1 (by simp)), (fun v w w' h1 h2 => Row.kept h2 h1 (by simp)), is_stab _ _, is_stab _ _, is_stab _ _, is_stab _ _, is_stab _ _, is_stab _ _, is_stab _ _, is_stab _ _, trivial⟩ ⟨?o0, ?o1, ?o2, ?o3, ?o4, ?o5, ?o6, ?o7, ?o8, ?o9, ?o10, ?o11, ?o12, ?o13, ?o14, ?o15, ?o16, ?o17, ?o18, ?o19, ?o20, ?o21, ?o22, ?o23, ?o24, ?o25, trivial⟩ ?_
  case o0 =>
    intro vals wq hRq hpq
    simp only [List.getD_cons_zero, List.getD_cons_succ, canonP]
    simp only [Oper.gives]
    go_simp
    exact ⟨is_mk _ _, (Touch.refl []) _⟩
  case o1 =>
    intro vals wq hRq hpq
    simp only [factsP, List.getD_cons_zero, List.getD_cons_succ] at hpq
    have f0 := hpq.1
    replace hpq := hpq.2
    clear hpq
    replace f0 : vals 0 = _ := f0
    simp only [List.getD_cons_zero, List.getD_cons_succ, canonP, f0]
    clear f0
    simp only [Oper.gives]
    go_simp
    exact ⟨is_mk _ _, (Touch.refl []) _⟩
  case o2 =>
    intro vals wq hRq hpq
    simp only [factsP, List.getD_cons_zero, List.getD_cons_succ] at hpq
    have f1 := hpq.1
    replace hpq := hpq.2
    clear hpq
    replace f1 : vals 1 = _ := f1
    simp only [List.getD_cons_zero, List.getD_cons_succ, canonP, f1]
    clear f1
    simp only [Oper.gives]
    go_simp
    exact ⟨is_mk _ _, (Touch.refl []) _⟩
  case o3 =>
    intro vals wq hRq hpq
    simp only [factsP, List.getD_cons_zero, List.getD_cons_succ] at hpq
    have f1 := hpq.1
    replace hpq := hpq.2
    have f2 := hpq.1
    replace hpq := hpq.2
    clear hpq
    replace f1 : vals 1 = _ := f1
    replace f2 : vals 2 = _ := f2
    simp only [List.getD_cons_zero, List.getD_cons_succ, canonP, f1, f2]
    clear f1 f2
    simp only [Oper.gives]
    go_simp
    exact ⟨is_mk _ _, (Touch.refl []) _⟩
  case o4 =>
    intro vals wq hRq hpq
    simp only [factsP, List.getD_cons_zero, List.getD_cons_succ] at hpq
    have f1 := hpq.1
    replace hpq := hpq.2
    have f3 := hpq.1
    replace hpq := hpq.2
    clear hpq
    replace f1 : vals 1 = _ := f1
    replace f3 : vals 3 = _ := f3
    simp only [List.getD_cons_zero, List.getD_cons_succ, canonP, f1, f3]
    clear f1 f3
    simp only [Oper.gives]
    go_simp
    exact ⟨is_mk _ _, (Touch.refl []) _⟩
  case o5 =>
    intro vals wq hRq hpq
    simp only [factsP, List.getD_cons_zero, List.getD_cons_succ] at hpq
    have f1 := hpq.1
    replace hpq := hpq.2
    have f4 := hpq.1
    replace hpq := hpq.2
    clear hpq
    replace f1 : vals 1 = _ := f1
    replace f4 : vals 4 = _ := f4
    simp only [List.getD_cons_zero, List.getD_cons_succ, canonP, f1, f4]
    clear f1 f4
    simp only [Oper.gives]
    go_simp
    exact ⟨is_mk _ _, (Touch.refl []) _⟩
  case o6 =>
    intro vals wq hRq hpq
    simp only [factsP, List.getD_cons_zero, List.getD_cons_succ] at hpq
    have f5 := hpq.1
    replace hpq := hpq.2
    clear hpq
    replace f5 : vals 5 = _ := f5
    simp only [List.getD_cons_zero, List.getD_cons_succ, canonP, f5]
    clear f5
    simp only [Oper.gives]
    go_simp
    exact ⟨is_mk _ _, (Touch.refl []) _⟩
  case o7 =>
    intro vals wq hRq hpq
    simp only [factsP, List.getD_cons_zero, List.getD_cons_succ] at hpq
    have f5 := hpq.1
    replace hpq := hpq.2
    have f6 := hpq.1
    replace hpq := hpq.2
    clear hpq
    replace f5 : vals 5 = _ := f5
    replace f6 : vals 6 = _ := f6
    simp only [List.getD_cons_zero, List.getD_cons_succ, canonP, f5, f6]
    clear f5 f6
    simp only [Oper.gives]
    go_simp
    exact ⟨is_mk _ _, (Touch.refl []) _⟩
  case o8 =>
    intro vals wq hRq hpq
    simp only [factsP, List.getD_cons_zero, List.getD_cons_succ] at hpq
    have f5 := hpq.1
    replace hpq := hpq.2
    have f7 := hpq.1
    replace hpq := hpq.2
    clear hpq
    replace f5 : vals 5 = _ := f5
    replace f7 : vals 7 = _ := f7
    simp only [List.getD_cons_zero, List.getD_cons_succ, canonP, f5, f7]
    clear f5 f7
    simp only [Oper.gives]
    go_simp
    exact ⟨is_mk _ _, (Touch.refl []) _⟩
  case o9 =>
    intro vals wq hRq hpq
    simp only [factsP, List.getD_cons_zero, List.getD_cons_succ] at hpq
    have f5 := hpq.1
    replace hpq := hpq.2
    have f8 := hpq.1
    replace hpq := hpq.2
    clear hpq
    replace f5 : vals 5 = _ := f5
    replace f8 : vals 8 = _ := f8
    simp only [List.getD_cons_zero, List.getD_cons_succ, canonP, f5, f8]
    clear f5 f8
    simp only [Oper.gives]
    go_simp
    exact ⟨is_mk _ _, (Touch.refl []) _⟩
  case o10 =>
    intro vals wq hRq hpq
    simp only [factsP, List.getD_cons_zero, List.getD_cons_succ] at hpq
    have f9 := hpq.1
    replace hpq := hpq.2
    clear hpq
    replace f9 : vals 9 = _ := f9
    simp only [List.getD_cons_zero, List.getD_cons_succ, canonP, f9]
    clear f9
    have hbx : wq.heap[BX]? = some (.cells (bc x).toArray 32) := (Touch.block ((Touch.drew [] _).trans hRq (by simp)) BX HCX.out.1 (by simp)).trans HCX.out.2
    rw [if_pos (by rfl)]
    exact gives_load_row 32 _ rfl BX rfl 32 (bc x).toArray (0, 0) _ hbx Try.underlying32 rfl HSz.out ⟨is_mk _ _, Touch.refl _ _⟩
  case o11 =>
    intro vals wq hRq hpq
    simp only [factsP, List.getD_cons_zero, List.getD_cons_succ] at hpq
    have f9 := hpq.1
    replace hpq := hpq.2
    clear hpq
    replace f9 : vals 9 = _ := f9
    simp only [List.getD_cons_zero, List.getD_cons_succ, canonP, f9]
    clear f9
    simp only [Oper.gives]
    go_simp
    exact (HFI.out wq).mono fun e w' ⟨he, hg⟩ => ⟨_, he, is_mk _ _, Touch.of_below hg⟩
  case o12 =>
    intro vals wq hRq hpq
    simp only [factsP, List.getD_cons_zero, List.getD_cons_succ] at hpq
    have f9 := hpq.1
    replace hpq := hpq.2
    have f10 := hpq.1
    replace hpq := hpq.2
    have f11 := hpq.1
    replace hpq := hpq.2
    clear hpq
    replace f9 : vals 9 = _ := f9
    replace f10 : vals 10 = _ := f10
    replace f11 : vals 11 = _ := f11
    simp only [List.getD_cons_zero, List.getD_cons_succ, canonP, f9, f10, f11]
    clear f9 f10 f11
    have hq1 := HEQ.out
    have hgT := guardT
    simp only [Oper.gives]
    go_simp
    exact ⟨is_mk _ _, Touch.refl _ _⟩
  case o13 =>
    intro vals wq hRq hpq
    simp only [factsP, List.getD_cons_zero, List.getD_cons_succ] at hpq
    have f9 := hpq.1
    replace hpq := hpq.2
    have f12 := hpq.1
    replace hpq := hpq.2
    clear hpq
    replace f9 : vals 9 = _ := f9
    replace f12 : vals 12 = _ := f12
    simp only [List.getD_cons_zero, List.getD_cons_succ, canonP, f9, f12]
    clear f9 f12
    simp only [Oper.gives]
    go_simp
    exact ⟨is_mk _ _, (Touch.refl []) _⟩
  case o14 =>
    intro vals wq hRq hpq
    simp only [factsP, List.getD_cons_zero, List.getD_cons_succ] at hpq
    have f11 := hpq.1
    replace hpq := hpq.2
    have f13 := hpq.1
    replace hpq := hpq.2
    clear hpq
    replace f11 : vals 11 = _ := f11
    replace f13 : vals 13 = _ := f13
    simp only [List.getD_cons_zero, List.getD_cons_succ, canonP, f11, f13]
    clear f11 f13
    simp only [Oper.gives]
    go_simp
    exact ⟨is_mk _ _, (Touch.refl []) _⟩
  case o15 =>
    intro vals wq hRq hpq
    simp only [factsP, List.getD_cons_zero, List.getD_cons_succ] at hpq
    have f14 := hpq.1
    replace hpq := hpq.2
    clear hpq
    replace f14 : vals 14 = _ := f14
    simp only [List.getD_cons_zero, List.getD_cons_succ, canonP, f14]
    clear f14
    simp only [Oper.gives]
    go_simp
    exact ⟨is_mk _ _, (Touch.refl []) _⟩
  case o16 =>
    intro vals wq hRq hpq
    simp only [factsP, List.getD_cons_zero, List.getD_cons_succ] at hpq
    have f14 := hpq.1
    replace hpq := hpq.2
    have f15 := hpq.1
    replace hpq := hpq.2
    clear hpq
    replace f14 : vals 14 = _ := f14
    replace f15 : vals 15 = _ := f15
    simp only [List.getD_cons_zero, List.getD_cons_succ, canonP, f14, f15]
    clear f14 f15
    simp only [Oper.gives]
    go_simp
    exact (HDQ.out wq ((Touch.drew [] _).trans hRq (by simp))).mono fun e w' ⟨v, he, hr, hg, _⟩ => ⟨_, he, hr, Touch.of_below hg⟩
  case o17 =>
    intro vals wq hRq hpq
    simp only [factsP, List.getD_cons_zero, List.getD_cons_succ] at hpq
    have f14 := hpq.1
    replace hpq := hpq.2
    clear hpq
    replace f14 : vals 14 = _ := f14
    simp only [List.getD_cons_zero, List.getD_cons_succ, canonP, f14]
    clear f14
    rw [if_pos (by rfl)]
    exact gives_buildSlice 28 1 _ rfl (v := .slice (some ⟨wq.heap.size, 0, none⟩) 1 1) (w' := wq.alloc (.cells #[.int .i64 1] 3)) (by simp only [List.map_toArray, List.map_cons, List.map_nil]; exact mk_one wq) ⟨irow_one wq 1, Touch.alloc _ _ _⟩
  case o18 =>
    intro vals wq hRq hpq
    simp only [factsP, List.getD_cons_zero, List.getD_cons_succ] at hpq
    have f14 := hpq.1
    replace hpq := hpq.2
    have f16 := hpq.1
    replace hpq := hpq.2
    have f17 := hpq.1
    replace hpq := hpq.2
    clear hpq
    replace f14 : vals 14 = _ := f14
    simp only [List.getD_cons_zero, List.getD_cons_succ, canonP, f14]
    clear f14
    simp only [Oper.gives]
    go_simp
    exact (same_ints f16 f17 (by decide)).mono fun e w' ⟨he, hg⟩ => ⟨_, he, is_mk _ _, Touch.of_below hg⟩
  case o19 =>
    intro vals wq hRq hpq
    simp only [factsP, List.getD_cons_zero, List.getD_cons_succ] at hpq
    have f14 := hpq.1
    replace hpq := hpq.2
    have f18 := hpq.1
    replace hpq := hpq.2
    clear hpq
    replace f14 : vals 14 = _ := f14
    replace f18 : vals 18 = _ := f18
    simp only [List.getD_cons_zero, List.getD_cons_succ, canonP, f14, f18]
    clear f14 f18
    simp only [Oper.gives]
    go_simp
    exact ⟨is_mk _ _, (Touch.refl []) _⟩
  case o20 =>
    intro vals wq hRq hpq
    simp only [factsP, List.getD_cons_zero, List.getD_cons_succ] at hpq
    have f18 := hpq.1
    replace hpq := hpq.2
    have f19 := hpq.1
    replace hpq := hpq.2
    clear hpq
    replace f18 : vals 18 = _ := f18
    replace f19 : vals 19 = _ := f19
    simp only [List.getD_cons_zero, List.getD_cons_succ, canonP, f18, f19]
    clear f18 f19
    simp only [Oper.gives]
    go_simp
    exact ⟨is_mk _ _, (Touch.refl []) _⟩
  case o21 =>
    intro vals wq hRq hpq
    simp only [factsP, List.getD_cons_zero, List.getD_cons_succ] at hpq
    have f20 := hpq.1
    replace hpq := hpq.2
    clear hpq
    replace f20 : vals 20 = _ := f20
    simp only [List.getD_cons_zero, List.getD_cons_succ, canonP, f20]
    clear f20
    simp only [Oper.gives]
    go_simp
    exact ⟨is_mk _ _, (Touch.refl []) _⟩
  case o22 =>
    intro vals wq hRq hpq
    simp only [factsP, List.getD_cons_zero, List.getD_cons_succ] at hpq
    have f20 := hpq.1
    replace hpq := hpq.2
    have f21 := hpq.1
    replace hpq := hpq.2
    clear hpq
    replace f20 : vals 20 = _ := f20
    replace f21 : vals 21 = _ := f21
    simp only [List.getD_cons_zero, List.getD_cons_succ, canonP, f20, f21]
    clear f20 f21
    simp only [Oper.gives]
    go_simp
    exact (HDP.out wq ((Touch.drew [] _).trans hRq (by simp))).mono fun e w' ⟨he, hg⟩ => ⟨_, he, is_mk _ _, Touch.of_below hg⟩
  case o23 =>
    intro vals wq hRq hpq
    simp only [factsP, List.getD_cons_zero, List.getD_cons_succ] at hpq
    have f20 := hpq.1
    replace hpq := hpq.2
    have f22 := hpq.1
    replace hpq := hpq.2
    clear hpq
    replace f20 : vals 20 = _ := f20
    replace f22 : vals 22 = _ := f22
    simp only [List.getD_cons_zero, List.getD_cons_succ, canonP, f20, f22]
    clear f20 f22
    simp only [Oper.gives]
    go_simp
    exact ⟨is_mk _ _, (Touch.refl []) _⟩
  case o24 =>
    intro vals wq hRq hpq
    simp only [factsP, List.getD_cons_zero, List.getD_cons_succ] at hpq
    have f20 := hpq.1
    replace hpq := hpq.2
    have f23 := hpq.1
    replace hpq := hpq.2
    clear hpq
    replace f20 : vals 20 = _ := f20
    replace f23 : vals 23 = _ := f23
    simp only [List.getD_cons_zero, List.getD_cons_succ, canonP, f20, f23]
    clear f20 f23
    simp only [Oper.gives]
    go_simp
    exact ⟨is_mk _ _, (Touch.refl []) _⟩
  case o25 =>
    intro vals wq hRq hpq
    simp only [factsP, List.getD_cons_zero, List.getD_cons_succ] at hpq
    have f0 := hpq.1
    replace hpq := hpq.2
    have f1 := hpq.1
    replace hpq := hpq.2
    have f2 := hpq.1
    replace hpq := hpq.2
    have f3 := hpq.1
    replace hpq := hpq.2
    have f4 := hpq.1
    replace hpq := hpq.2
    have f5 := hpq.1
    replace hpq := hpq.2
    have f6 := hpq.1
    replace hpq := hpq.2
    have f7 := hpq.1
    replace hpq := hpq.2
    have f8 := hpq.1
    replace hpq := hpq.2
    have f9 := hpq.1
    replace hpq := hpq.2
    have f10 := hpq.1
    replace hpq := hpq.2
    have f11 := hpq.1
    replace hpq := hpq.2
    have f12 := hpq.1
    replace hpq := hpq.2
    have f13 := hpq.1
    replace hpq := hpq.2
    have f14 := hpq.1
    replace hpq := hpq.2
    have f15 := hpq.1
    replace hpq := hpq.2
    have f16 := hpq.1
    replace hpq := hpq.2
    have f17 := hpq.1
    replace hpq := hpq.2
    have f18 := hpq.1
    replace hpq := hpq.2
    have f19 := hpq.1
    replace hpq := hpq.2
    have f20 := hpq.1
    replace hpq := hpq.2
    have f21 := hpq.1
    replace hpq := hpq.2
    have f22 := hpq.1
    replace hpq := hpq.2
    have f23 := hpq.1
    replace hpq := hpq.2
    have f24 := hpq.1
    replace hpq := hpq.2
    clear hpq
    replace f0 : vals 0 = _ := f0
    replace f1 : vals 1 = _ := f1
    replace f2 : vals 2 = _ := f2
    replace f3 : vals 3 = _ := f3
    replace f4 : vals 4 = _ := f4
    replace f5 : vals 5 = _ := f5
    replace f6 : vals 6 = _ := f6
    replace f7 : vals 7 = _ := f7
    replace f8 : vals 8 = _ := f8
    replace f9 : vals 9 = _ := f9
    replace f10 : vals 10 = _ := f10
    replace f11 : vals 11 = _ := f11
    replace f12 : vals 12 = _ := f12
    replace f13 : vals 13 = _ := f13
    replace f14 : vals 14 = _ := f14
    replace f15 : vals 15 = _ := f15
    replace f18 : vals 18 = _ := f18
    replace f19 : vals 19 = _ := f19
    replace f20 : vals 20 = _ := f20
    replace f21 : vals 21 = _ := f21
    replace f22 : vals 22 = _ := f22
    replace f23 : vals 23 = _ := f23
    replace f24 : vals 24 = _ := f24
    simp only [List.getD_cons_zero, List.getD_cons_succ, canonP, f0, f1, f2, f3, f4, f5, f6, f7, f8, f9, f10, f11, f12, f13, f14, f15, f18, f19, f20, f21, f22, f23, f24]
    clear f0 f1 f2 f3 f4 f5 f6 f7 f8 f9 f10 f11 f12 f13 f14 f15 f18 f19 f20 f21 f22 f23 f24
    simp only [Oper.gives]
    go_simp
    exact ⟨is_mk _ _, (Touch.refl []) _⟩
  intro vals wz hRwz hfwz
  simp only [AllFacts] at hfwz
  have g0 := hfwz.1
  replace hfwz := hfwz.2
  have g1 := hfwz.1
  replace hfwz := hfwz.2
  have g2 := hfwz.1
  replace hfwz := hfwz.2
  have g3 := hfwz.1
  replace hfwz := hfwz.2
  have g4 := hfwz.1
  replace hfwz := hfwz.2
  have g5 := hfwz.1
  replace hfwz := hfwz.2
  have g6 := hfwz.1
  replace hfwz := hfwz.2
  have g7 := hfwz.1
  replace hfwz := hfwz.2
  have g8 := hfwz.1
  replace hfwz := hfwz.2
  have g9 := hfwz.1
  replace hfwz := hfwz.2
  have g10 := hfwz.1
  replace hfwz := hfwz.2
  have g11 := hfwz.1
  replace hfwz := hfwz.2
  have g12 := hfwz.1
  replace hfwz := hfwz.2
  have g13 := hfwz.1
  replace hfwz := hfwz.2
  have g14 := hfwz.1
  replace hfwz := hfwz.2
  have g15 := hfwz.1
  replace hfwz := hfwz.2
  have g16 := hfwz.1
  replace hfwz := hfwz.2
  have g17 := hfwz.1
  replace hfwz := hfwz.2
  have g18 := hfwz.1
  replace hfwz := hfwz.2
  have g19 := hfwz.1
  replace hfwz := hfwz.2
  have g20 := hfwz.1
  replace hfwz := hfwz.2
  have g21 := hfwz.1
  replace hfwz := hfwz.2
  have g22 := hfwz.1
  replace hfwz := hfwz.2
  have g23 := hfwz.1
  replace hfwz := hfwz.2
  have g24 := hfwz.1
  replace hfwz := hfwz.2
  have g25 := hfwz.1
  replace hfwz := hfwz.2
  clear hfwz
  replace g0 : vals 0 = _ := g0
  replace g1 : vals 1 = _ := g1
  replace g2 : vals 2 = _ := g2
  replace g3 : vals 3 = _ := g3
  replace g4 : vals 4 = _ := g4
  replace g5 : vals 5 = _ := g5
  replace g6 : vals 6 = _ := g6
  replace g7 : vals 7 = _ := g7
  replace g8 : vals 8 = _ := g8
  replace g9 : vals 9 = _ := g9
  replace g10 : vals 10 = _ := g10
  replace g11 : vals 11 = _ := g11
  replace g12 : vals 12 = _ := g12
  replace g13 : vals 13 = _ := g13
  replace g14 : vals 14 = _ := g14
  replace g15 : vals 15 = _ := g15
  replace g18 : vals 18 = _ := g18
  replace g19 : vals 19 = _ := g19
  replace g20 : vals 20 = _ := g20
  replace g21 : vals 21 = _ := g21
  replace g22 : vals 22 = _ := g22
  replace g23 : vals 23 = _ := g23
  replace g24 : vals 24 = _ := g24
  replace g25 : vals 25 = _ := g25
  simp only [canonP, Act.put, List.setIfInBounds_toArray, List.set_cons_succ, List.set_cons_zero, g0, g1, g2, g3, g4, g5, g6, g7, g8, g9, g10, g11, g12, g13, g14, g15, g18, g19, g20, g21, g22, g23, g24, g25]
  clear g0 g1 g2 g3 g4 g5 g6 g7 g8 g9 g10 g11 g12 g13 g14 g15 g16 g17 g18 g19 g20 g21 g22 g23 g24 g25
  have HGF := Lib.hid (HGA.out.trans (((Touch.drew [] wA).trans hRwz (by simp)).below (Nat.le_refl _) (by simp)))
  clear hRwz
  go_wp2_with fail
  go_ret
  exact ⟨rfl, HGF.out⟩
#print axioms awake_ok
end Go.Proofs.Ytmfofobmceflmaa
