/- The law CacheNil: the walk. -/
import Derived.Test.YtmfofobmceflmaaC18
set_option linter.unusedVariables false
set_option linter.unusedSimpArgs false
namespace Go.Proofs.Ytmfofobmceflmaa
open Go.RowKit Go.Maps

theorem nil_lists (w : World) : ∀ k : Nat, k < 2 → ∃ v, ((w.alloc (.cells #[.pointer none, .map none, .map none] 58)).alloc (.cells #[.pointer none, .pointer (some ⟨w.heap.size, 0, none⟩)] 23)).cell? ⟨w.heap.size + 1, k, none⟩ = some v ∧
    NoC ((w.alloc (.cells #[.pointer none, .map none, .map none] 58)).alloc (.cells #[.pointer none, .pointer (some ⟨w.heap.size, 0, none⟩)] 23)) v := by
  intro k hk
  have h3 := heap_two w (.cells #[.pointer none, .map none, .map none] 58) (.cells #[.pointer none, .pointer (some ⟨w.heap.size, 0, none⟩)] 23)
  have h2 := heap_one w (.cells #[.pointer none, .map none, .map none] 58) (.cells #[.pointer none, .pointer (some ⟨w.heap.size, 0, none⟩)] 23)
  match k, hk with
  | 0, _ => exact ⟨_, cell_at h3 0, noC_nil _⟩
  | 1, _ => exact ⟨_, cell_at h3 1, noC_empty (by simp; omega) (cell_at h2 0)⟩
set_option maxRecDepth 100000 in
set_option maxHeartbeats 4000000 in
theorem nil_walk (k0 a : Int) (s : Nat) (hs : s < 4294967296) (kv : Value) (w : World) :
    Calls Try.prog 7 #[.agg #[.int .u8 k0, .int .i64 a, .int .u32 (s : Int), kv]] w fun e w' => e = .returned (.bool true) ∧ Below w.heap.size w w' := by
  have hz := zero32
  have HB := Lib.hid (show Try.prog.built 32 [] = some (bc zeroB).toArray by kernel_rfl)
  have hzs := zero_size
  have HO := Lib.hid (show (bc zeroB).toArray.all (·.oneCell') = true from all_oneCell_toArray (bc_one _))
  have HRD := Lib.hid (fun (wq : World) (v b : Value) (h : NoC wq v) => cread_none h b)
  have hq1 := fun w => equal32 zeroB zeroB_length w
  have hgT := guardT
  generalize (bc zeroB).toArray = Z at *
  have HSz := Lib.hid (show (Try.prog.info? 32).map (·.size) = some Z.size by rw [hzs]; exact size32)
  clear hzs
  go_enter Try.func7, Try.ntmps7
  go_wp2_with fail
  refine (cnew_none (made_nil _)).mono ?_
  rintro e w' ⟨rfl, rfl⟩
  have hob := heap_alloc_last w (.cells #[.int .u8 k0, .int .i64 a, .int .u32 (s : Int), kv] 49)
  have HA1 := Lib.hid (cell_at hob 1)
  have HGW := Lib.hid (Grow.alloc w (.cells #[.int .u8 k0, .int .i64 a, .int .u32 (s : Int), kv] 49))
  have HSW := Lib.hid (show w.heap.size < (w.alloc (.cells #[.int .u8 k0, .int .i64 a, .int .u32 (s : Int), kv] 49)).heap.size by simp)
  clear hob
  generalize w.alloc (.cells #[.int .u8 k0, .int .i64 a, .int .u32 (s : Int), kv] 49) = W1 at *
  obtain ⟨A0, hA0⟩ : ∃ g, g = w.heap.size := ⟨_, rfl⟩
  rw [← hA0] at HA1 HSW
  rw [← hA0]
  clear hA0
  go_wp2_with fail
  refine (cnew_none (made_empty (cell_at (heap_alloc_last W1 _) 0))).mono ?_
  rintro e w' ⟨rfl, rfl⟩
  have HG2 := Lib.hid (show Grow W1 (W1.alloc (.cells #[.slice none 0 0, .slice none 0 0, .slice none 0 0, .int .i64 0, .bool false, .int .i64 0] 54)) from Grow.alloc _ _)
  generalize W1.alloc (.cells #[.slice none 0 0, .slice none 0 0, .slice none 0 0, .int .i64 0, .bool false, .int .i64 0] 54) = W2 at *
  go_wp2_with fail
  have HL := Lib.hid (nil_lists W2)
  have HG3 := Lib.hid (show Grow W2 ((W2.alloc (.cells #[.pointer none, .map none, .map none] 58)).alloc (.cells #[.pointer none, .pointer (some ⟨W2.heap.size, 0, none⟩)] 23)) from (Grow.alloc _ _).trans (Grow.alloc _ _))
  have HS3 := Lib.hid (show W2.heap.size + 1 < ((W2.alloc (.cells #[.pointer none, .map none, .map none] 58)).alloc (.cells #[.pointer none, .pointer (some ⟨W2.heap.size, 0, none⟩)] 23)).heap.size by simp)
  generalize (W2.alloc (.cells #[.pointer none, .map none, .map none] 58)).alloc (.cells #[.pointer none, .pointer (some ⟨W2.heap.size, 0, none⟩)] 23) = W3 at *
  obtain ⟨L0, hL0⟩ : ∃ g, g = W2.heap.size + 1 := ⟨_, rfl⟩
  rw [← hL0] at HL HS3
  rw [← hL0]
  clear hL0
  have HA3 := Lib.hid ((HG3.out.cell (p := ⟨A0, 1, none⟩) (Nat.lt_of_lt_of_le HSW.out HG2.out.size)).trans ((HG2.out.cell (p := ⟨A0, 1, none⟩) HSW.out).trans HA1.out))
  have HL3 := Lib.hid (show A0 < W3.heap.size from Nat.lt_of_lt_of_le HSW.out (Nat.le_trans HG2.out.size HG3.out.size))
  have HGA := Lib.hid (HGW.out.trans (HG2.out.trans HG3.out))
  clear HA1 HSW HG2 HG3 HGW
  go_loopw [10] (fun t10 wr => ∃ (k : Nat), k ≤ 2 ∧ t10 = .int .i64 (k : Int) ∧ Hid (Grow W3 wr)) (fun t10 _ => 2 - (intOf t10).toNat)
  case atStart => exact ⟨0, by omega, rfl, Lib.hid (Grow.refl _)⟩
  case round =>
    obtain ⟨k, hk, rfl, HGr⟩ := hrel
    by_cases hlt : k < 2
    · have b0 : (0 : Int) ≤ (k : Int) := by omega
      have b1 : (k : Int) < 2 := by omega
      obtain ⟨v, hv, hn⟩ := HL.out k hlt
      have hcv : wr.cell? ⟨L0, k, none⟩ = some v := (HGr.out.cell (p := ⟨L0, k, none⟩) HS3.out).trans hv
      have hca : wr.cell? ⟨A0, 1, none⟩ = some (.int .i64 a) := (HGr.out.cell (p := ⟨A0, 1, none⟩) HL3.out).trans HA3.out
      have HN := Lib.hid (hn.later HGr.out)
      clear hv hn
      go_wp2_with fail
      refine (HRD.out _ v _ HN.out).mono ?_
      intro e w4 hpost
      obtain ⟨he, hg4⟩ := hpost
      subst he
      have HG4 := Lib.hid hg4
      clear hg4 hcv hca
      go_upto_region 13 with (refine wpList_store_row rfl 32 _ _ rfl w4.heap.size Z rfl rfl 32 Z (heap_alloc_last _ _) HSz.out rfl HO.out ?_)
      have hg5 : Grow w4 ((w4.alloc (.cells Z 32)).setRow w4.heap.size Z) := below_setRow ((Below.refl _ _).alloc (Nat.le_refl _) _) (Nat.le_refl _) _
      have HG5 := Lib.hid (HGr.out.trans (HG4.out.trans hg5))
      have HN5 := Lib.hid (HN.out.later (HG4.out.trans hg5))
      have HX5 := Lib.hid (show ((w4.alloc (.cells Z 32)).setRow w4.heap.size Z).heap[w4.heap.size]? = some (.cells Z 32) from setRow_heap _ _ _ _ _ _ (heap_alloc_last _ _))
      clear hg5 HG4 HN HGr
      generalize (w4.alloc (.cells Z 32)).setRow w4.heap.size Z = W5 at *
      obtain ⟨BX, hBX⟩ : ∃ g, g = w4.heap.size := ⟨_, rfl⟩
      rw [← hBX] at HX5
      rw [← hBX]
      clear hBX
      have hca : W5.cell? ⟨A0, 1, none⟩ = some (.int .i64 a) := (HG5.out.cell (p := ⟨A0, 1, none⟩) HL3.out).trans HA3.out
      go_wp2_with fail
      refine (cpin_none HN5.out _ _).mono ?_
      rintro e w' ⟨⟨ve, rfl⟩, rfl⟩
      go_wp2_with fail
      refine (cwb_none HN5.out _).mono ?_
      rintro e w' ⟨rfl, rfl⟩
      go_wp2_with fail
      refine (cev_none HN5.out a).mono ?_
      rintro e w' ⟨rfl, rfl⟩
      go_upto_region 16 with (fail)
      simp only [List.append_eq, List.cons_append, List.nil_append]
      go_wp2_with (first | (refine wpList_load_row rfl 32 _ rfl BX rfl 32 Z (0, 0) _ HX5.out Try.underlying32 rfl HSz.out ?_) | ((refine wpList_build rfl 32 _ rfl (by rw [show (((#[] : Array (Nat × Operand)).map fun (i, x) => (i, Act.eval _ x)).toList) = [] from rfl, HB.out]; rfl) ?_); rw [show (((#[] : Array (Nat × Operand)).map fun (i, x) => (i, Act.eval _ x)).toList) = [] from rfl, HB.out, Option.getD_some]))
      refine (cdisk_none HN5.out).mono ?_
      rintro e w' ⟨rfl, rfl⟩
      go_wp2_with fail
      refine (cdirty_none HN5.out).mono ?_
      rintro e w' ⟨rfl, rfl⟩
      go_wp2_with fail
      refine (cclean_none HN5.out).mono ?_
      rintro e w' ⟨rfl, rfl⟩
      go_wp2_with fail
      refine wp_load_row 32 _ rfl BX rfl 32 Z (0, 0) _ HX5.out Try.underlying32 rfl HSz.out ?_
      go_wp2_with fail
      refine (cwrite_none HN5.out _ Z).mono ?_
      intro e w6 hpost
      obtain ⟨he, hg6⟩ := hpost
      subst he
      have HN6 := Lib.hid (HN5.out.later hg6)
      have HG6 := Lib.hid (HG5.out.trans hg6)
      have hca6 : w6.cell? ⟨A0, 1, none⟩ = some (.int .i64 a) := (HG6.out.cell (p := ⟨A0, 1, none⟩) HL3.out).trans HA3.out
      clear hg6 hca HN5 HG5 HX5
      go_wp2_with fail
      refine (cback_none HN6.out _).mono ?_
      rintro e w' ⟨rfl, rfl⟩
      go_wp2_with fail
      refine (cdrop_none HN6.out _).mono ?_
      rintro e w' ⟨rfl, rfl⟩
      go_wp2_with fail
      refine (csync_none HN6.out).mono ?_
      rintro e w' ⟨rfl, rfl⟩
      go_wp2_with fail
      go_roundw
      case rel => exact ⟨k + 1, by omega, by go_num, HG6⟩
      case measure => simp [intOf]; omega
    · obtain rfl : k = 2 := by omega
      go_wp2_with fail
      refine (awake_ok _).mono ?_
      intro e w' hpost
      obtain ⟨he, hg⟩ := hpost
      subst he
      have HGf := Lib.hid (HGA.out.trans (HGr.out.trans hg))
      clear hg
      go_wp2_with fail
      go_ret
      exact ⟨rfl, HGf.out⟩
#print axioms nil_walk
end Go.Proofs.Ytmfofobmceflmaa
