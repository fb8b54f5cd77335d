/- The law TxnNil: the walk. -/
import Derived.Test.YtnogajnoghjmhaaT19
set_option linter.unusedVariables false
set_option linter.unusedSimpArgs false
namespace Go.Proofs.Ytnogajnoghjmhaa
open Go.RowKit Go.Maps

theorem nil_lists {w W : World} {x : AP} (hW : W = ((w.alloc (.cells #[.int .u8 (x.k : Int), .int .i64 x.at_, .int .i64 x.more, .int .u32 (x.fill : Int)] 56)).alloc (.cells #[.map none, .map none, .map none, .pointer none, .int .u32 0, .bool false, .int .i64 0, .int .i64 0, .map none, .map none, .map none, .map none, .pointer none] 66)).alloc (.cells #[.pointer none, .pointer (some ⟨w.heap.size + 1, 0, none⟩)] 24)) : ∀ k < 2, ∃ v, (W.cell? ⟨w.heap.size + 1 + 1, k, none⟩ = some v) ∧ NoMade W v := by
  subst hW
  intro k hk
  have h2 := heap_alloc_last ((w.alloc (.cells #[.int .u8 (x.k : Int), .int .i64 x.at_, .int .i64 x.more, .int .u32 (x.fill : Int)] 56)).alloc (.cells #[.map none, .map none, .map none, .pointer none, .int .u32 0, .bool false, .int .i64 0, .int .i64 0, .map none, .map none, .map none, .map none, .pointer none] 66)) (.cells #[.pointer none, .pointer (some ⟨w.heap.size + 1, 0, none⟩)] 24)
  have h1 := (Below.heap_alloc ((w.alloc (.cells #[.int .u8 (x.k : Int), .int .i64 x.at_, .int .i64 x.more, .int .u32 (x.fill : Int)] 56)).alloc (.cells #[.map none, .map none, .map none, .pointer none, .int .u32 0, .bool false, .int .i64 0, .int .i64 0, .map none, .map none, .map none, .map none, .pointer none] 66)) (.cells #[.pointer none, .pointer (some ⟨w.heap.size + 1, 0, none⟩)] 24) (w.heap.size + 1) (by simp)).trans (heap_two w _ _)
  rw [show ((w.alloc (.cells #[.int .u8 (x.k : Int), .int .i64 x.at_, .int .i64 x.more, .int .u32 (x.fill : Int)] 56)).alloc (.cells #[.map none, .map none, .map none, .pointer none, .int .u32 0, .bool false, .int .i64 0, .int .i64 0, .map none, .map none, .map none, .map none, .pointer none] 66)).heap.size = w.heap.size + 1 + 1 by simp] at h2
  rcases (show k = 0 ∨ k = 1 by omega) with rfl | rfl
  · exact ⟨_, cell_at h2 0, noMade_nil _⟩
  · exact ⟨_, cell_at h2 1, noMade_bare (by simp) (cell_at h1 0)⟩
set_option maxRecDepth 100000 in
set_option maxHeartbeats 8000000 in
theorem nil_walk (x : AP) (hx : x.ok) (w : World) : Calls Try.prog 7 #[.agg x.cells.toArray] w fun e w' => e = .returned (.bool true) ∧ Below w.heap.size w w' := by
  have hz := zero32
  have HB := Lib.hid (show Try.prog.built 33 [] = some (bc zeroB).toArray by kernel_rfl)
  have HBT := Lib.hid (show Try.prog.built 41 [] = some #[.int .u32 0, .slice none 0 0, .slice none 0 0] by kernel_rfl)
  have HBX := Lib.hid (show Try.prog.built 66 [] = some #[.map none, .map none, .map none, .pointer none, .int .u32 0, .bool false, .int .i64 0, .int .i64 0, .map none, .map none, .map none, .map none, .pointer none] by kernel_rfl)
  have hzs := zero_size
  have HO := Lib.hid (show (bc zeroB).toArray.all (·.oneCell') = true from all_oneCell_toArray (bc_one _))
  have HGT := Lib.hid (fun (wq : World) (v : Value) (b : Int) (h : NoMade wq v) => get_not h b)
  have hq1 := fun w => equalB zeroB zeroB zeroB_ok zeroB_ok 9998 w
  simp only [decide_true] at hq1
  have hgT := guardTB
  generalize (bc zeroB).toArray = Z at *
  have HSz := Lib.hid (show (Try.prog.info? 33).map (·.size) = some Z.size by rw [hzs]; exact size32)
  have HX := Lib.hid hx
  clear hzs hx
  unfold AP.cells
  go_enter Try.func7, Try.ntmps7
  go_wp2_with (first | ((refine wpList_build rfl 66 _ rfl (by rw [show (((#[] : Array (Nat × Operand)).map fun (i, x) => (i, Act.eval _ x)).toList) = [] from rfl, HBX.out]; rfl) ?_); rw [show (((#[] : Array (Nat × Operand)).map fun (i, x) => (i, Act.eval _ x)).toList) = [] from rfl, HBX.out, Option.getD_some]))
  have hW3 : ∃ W, W = ((w.alloc (.cells #[.int .u8 (x.k : Int), .int .i64 x.at_, .int .i64 x.more, .int .u32 (x.fill : Int)] 56)).alloc (.cells #[.map none, .map none, .map none, .pointer none, .int .u32 0, .bool false, .int .i64 0, .int .i64 0, .map none, .map none, .map none, .map none, .pointer none] 66)).alloc (.cells #[.pointer none, .pointer (some ⟨w.heap.size + 1, 0, none⟩)] 24) := ⟨_, rfl⟩
  obtain ⟨W3, hW3⟩ := hW3
  have HL := Lib.hid (nil_lists hW3)
  have HGA := Lib.hid (show Grow w W3 by rw [hW3]; exact (Grow.alloc _ _).trans ((Grow.alloc _ _).trans (Grow.alloc _ _)))
  have HS3 := Lib.hid (show w.heap.size + 1 + 1 < W3.heap.size by rw [hW3]; simp)
  have HA3 := Lib.hid (show W3.heap[w.heap.size]? = some (.cells #[.int .u8 (x.k : Int), .int .i64 x.at_, .int .i64 x.more, .int .u32 (x.fill : Int)] 56) by
    rw [hW3]
    exact (Below.heap_alloc _ _ _ (by simp; omega)).trans ((Below.heap_alloc _ _ _ (by simp)).trans (heap_alloc_last w _)))
  rw [← hW3]
  clear hW3
  obtain ⟨A0, hA0⟩ : ∃ g, g = w.heap.size := ⟨_, rfl⟩
  rw [← hA0] at HL HS3 HA3 ⊢
  clear hA0
  go_loopw [5] (fun t5 wr => ∃ (k : Nat), k ≤ 2 ∧ t5 = .int .i64 (k : Int) ∧ Hid (Grow W3 wr)) (fun t5 _ => 2 - (intOfV t5).toNat)
  case atStart => exact ⟨0, by omega, rfl, Lib.hid (Grow.refl _)⟩
  case round =>
    obtain ⟨k, hk, rfl, HGr⟩ := hrel
    by_cases hlt : k < 2
    · have b0 : (0 : Int) ≤ (k : Int) := by omega
      have b1 : (k : Int) < 2 := by omega
      obtain ⟨v, hv, hn⟩ := HL.out k hlt
      have hcv : wr.cell? ⟨A0 + 1 + 1, k, none⟩ = some v := (HGr.out.cell (p := ⟨A0 + 1 + 1, k, none⟩) HS3.out).trans hv
      have hA3 := (HGr.out.block A0 (by have := HS3.out; omega)).trans HA3.out
      have hca : wr.cell? ⟨A0, 1, none⟩ = some (.int .i64 x.at_) := cell_at hA3 1
      have HN := Lib.hid (hn.later (Touch.of_below (S := []) HGr.out))
      clear hv hn hA3
      go_wp2_with fail
      refine (HGT.out _ v _ HN.out).mono ?_
      intro e w4 hpost
      obtain ⟨he, hg4⟩ := hpost
      subst he
      have HG4 := Lib.hid hg4
      clear hg4 hcv hca
      go_upto_region 8 with (refine wpList_store_row rfl 33 _ _ rfl w4.heap.size Z rfl rfl 33 Z (heap_alloc_last _ _) HSz.out rfl HO.out ?_)
      have hg5 : Grow w4 ((w4.alloc (.cells Z 33)).setRow w4.heap.size Z) := below_setRow ((Below.refl _ _).alloc (Nat.le_refl _) _) (Nat.le_refl _) _
      have HG5 := Lib.hid (HGr.out.trans (HG4.out.trans hg5))
      have HN5 := Lib.hid (HN.out.later (Touch.of_below (S := []) (HG4.out.trans hg5)))
      have HX5 := Lib.hid (show ((w4.alloc (.cells Z 33)).setRow w4.heap.size Z).heap[w4.heap.size]? = some (.cells Z 33) from setRow_heap _ _ _ _ _ _ (heap_alloc_last _ _))
      have HX5l := Lib.hid (show w4.heap.size < ((w4.alloc (.cells Z 33)).setRow w4.heap.size Z).heap.size from (Array.getElem?_eq_some_iff.1 HX5.out).1)
      clear hg5 HG4 HN HGr
      generalize (w4.alloc (.cells Z 33)).setRow w4.heap.size Z = W5 at *
      obtain ⟨BX, hBX⟩ : ∃ g, g = w4.heap.size := ⟨_, rfl⟩
      rw [← hBX] at HX5 HX5l
      rw [← hBX]
      clear hBX
      have HA5 := Lib.hid ((HG5.out.block A0 (by have := HS3.out; omega)).trans HA3.out)
      have HA5l := Lib.hid (show A0 < W5.heap.size from (Array.getElem?_eq_some_iff.1 HA5.out).1)
      refine nil_reg8 A0 x.fill x.at_ x.more v W5 (Lib.hid ⟨HA5l.out, cell_at HA5.out 1⟩) (Lib.hid ⟨HA5l.out, cell_at HA5.out 2⟩) (Lib.hid ⟨HA5l.out, cell_at HA5.out 3⟩) HN5 HX.out.f _ _ _ _ _ _ _ _ _ _ _ _ _ _ _ _ _ _ _ _ _ _ _ _ _ _ _ _ _ _ _ _ _ _ _ _ _ _ _ _ _ _ _ _ _ _ _ _ _ _ _ _ _ _ _ _ _ _ _ _ _ _ _ _ _ _ _ _ _ _ _ _ _ _ _ _ _ _ _ _ _ _ _ _ _ _ _ _ _ _ _ _ _ _ _ _ _ _ _ _ _ _ _ _ _ _ _ _ _ _ _ _ _ _ _ _ (Lib.hid ?hk)
      intro u30' u31' u32' u33' u34' u35' u36' u37' u38' u39' u40' u41' u42' u43' u44' u45' u46' u47' u48' u49' u50' u51' u52' u53' u54' u55' u56' u57' u58' u59' u60' u61' u62' u63' u64' u65' u66' u67' u68' u69' wz hz
      have HZ := Lib.hid hz
      have HNz := Lib.hid (HN5.out.later hz)
      have HXz := Lib.hid ((hz.block BX HX5l.out (by simp)).trans HX5.out)
      have HGz := Lib.hid (HG5.out.trans hz.grow)
      clear hz HG5 HA5 HA5l HX5 HX5l HN5 HZ
      go_upto_region 10 with (fail)
      go_wp2_with fail
      refine wp_load_row 33 _ rfl BX rfl 33 Z (0, 0) _ HXz.out Try.underlying33 rfl HSz.out ?_
      go_wp2_with fail
      refine (open_not HNz.out).mono ?_
      rintro e w' ⟨rfl, rfl⟩
      go_wp2_with fail
      refine (void_not HNz.out).mono ?_
      rintro e w' ⟨rfl, rfl⟩
      go_wp2_with fail
      refine (seq_not HNz.out).mono ?_
      rintro e w' ⟨rfl, rfl⟩
      go_wp2_with fail
      refine (changed_not HNz.out).mono ?_
      rintro e w' ⟨rfl, rfl⟩
      go_wp2_with fail
      refine (ordered_not HNz.out).mono ?_
      rintro e w' ⟨rfl, rfl⟩
      go_wp2_with fail
      refine (freed_not HNz.out).mono ?_
      rintro e w' ⟨rfl, rfl⟩
      go_wp2_with fail
      refine (revoked_not HNz.out).mono ?_
      rintro e w' ⟨rfl, rfl⟩
      go_wp2_with fail
      refine (trans_not HNz.out).mono ?_
      rintro e w7 ⟨rfl, hg7⟩
      have HG7 := Lib.hid (HGz.out.trans hg7)
      clear hg7
      go_wp2_with fail
      refine (sametrans_ok (seq := 0) (cs := []) (zs := []) ⟨⟨_, _, rfl, rowNil _ _ _, rowNil _ _ _⟩⟩ ⟨⟨_, _, rfl, rowNil _ _ _, rowNil _ _ _⟩⟩ (by simp) (by simp)).mono ?_
      rintro e w8 ⟨rfl, hg8⟩
      have HG8 := Lib.hid (HG7.out.trans hg8)
      clear hg8
      go_wp2_with fail
      go_roundw
      case rel => exact ⟨k + 1, by omega, by go_num, HG8⟩
      case measure => simp [intOfV]; omega
    · obtain rfl : k = 2 := by omega
      go_wp2_with fail
      refine (awake_ok _).mono ?_
      rintro e w9 ⟨rfl, hg9⟩
      have HG9 := Lib.hid (HGA.out.trans (HGr.out.trans hg9))
      clear hg9
      go_wp2_with fail
      go_ret
      exact ⟨rfl, HG9.out⟩
#print axioms nil_walk
end Go.Proofs.Ytnogajnoghjmhaa
