/- The law RevokeNil: the walk. -/
import Derived.Test.YtbpejjgjjjmlkaaR14
import Derived.Deep.Cut
set_option linter.unusedVariables false
set_option linter.unusedSimpArgs false
namespace Go.Proofs.Ytbpejjgjjjmlkaa
open Go.RowKit Go.Maps

theorem nil_lists (w : World) (o : Obj) : ∀ k : Nat, k < 2 → ∃ v, (((w.alloc o).alloc (.cells #[.map none] 50)).alloc (.cells #[.pointer none, .pointer (some ⟨w.heap.size + 1, 0, none⟩)] 24)).cell? ⟨w.heap.size + 1 + 1, k, none⟩ = some v ∧
    NoTab (((w.alloc o).alloc (.cells #[.map none] 50)).alloc (.cells #[.pointer none, .pointer (some ⟨w.heap.size + 1, 0, none⟩)] 24)) v := by
  intro k hk
  have h3 := heap_two (w.alloc o) (.cells #[.map none] 50) (.cells #[.pointer none, .pointer (some ⟨w.heap.size + 1, 0, none⟩)] 24)
  have h2 := heap_one (w.alloc o) (.cells #[.map none] 50) (.cells #[.pointer none, .pointer (some ⟨w.heap.size + 1, 0, none⟩)] 24)
  rw [show (w.alloc o).heap.size = w.heap.size + 1 by simp] at h2 h3
  match k, hk with
  | 0, _ => exact ⟨_, cell_at h3 0, noTab_nil _⟩
  | 1, _ => exact ⟨_, cell_at h3 1, noTab_empty (by simp) (cell_at h2 0)⟩
theorem nil_arg (w : World) (o1 o2 : Obj) (C : Array Value) (t : TypeId) (j : Nat) : (((w.alloc (.cells C t)).alloc o1).alloc o2).cell? ⟨w.heap.size, j, none⟩ = C[j]? := by
  refine cell_at (t := t) ?_ j
  rw [Below.heap_alloc _ _ _ (by simp; omega)]
  exact heap_one w _ _
set_option maxRecDepth 100000 in
set_option maxHeartbeats 4000000 in
theorem nil_walk (k0 a : Int) (s : Nat) (hs : s < 4294967296) (w : World) :
    Calls Try.prog 6 #[.agg #[.int .u8 k0, .int .i64 a, .int .u32 (s : Int)]] w fun e w' => e = .returned (.bool true) ∧ Below w.heap.size w w' := by
  go_enter Try.func6, Try.ntmps6
  go_wp2_with fail
  have HL := Lib.hid (nil_lists w (.cells #[.int .u8 k0, .int .i64 a, .int .u32 (s : Int)] 45))
  have hna := nil_arg w (.cells #[.map none] 50) (.cells #[.pointer none, .pointer (some ⟨w.heap.size + 1, 0, none⟩)] 24) #[.int .u8 k0, .int .i64 a, .int .u32 (s : Int)] 45
  have HA1 := Lib.hid (hna 1)
  have HA2 := Lib.hid (hna 2)
  have HG := Lib.hid (Grow.trans (Grow.alloc w (.cells #[.int .u8 k0, .int .i64 a, .int .u32 (s : Int)] 45)) (Grow.trans (Grow.alloc _ (.cells #[.map none] 50)) (Grow.alloc _ (.cells #[.pointer none, .pointer (some ⟨w.heap.size + 1, 0, none⟩)] 24))))
  have HS := Lib.hid (show w.heap.size + 3 ≤ (((w.alloc (.cells #[.int .u8 k0, .int .i64 a, .int .u32 (s : Int)] 45)).alloc (.cells #[.map none] 50)).alloc (.cells #[.pointer none, .pointer (some ⟨w.heap.size + 1, 0, none⟩)] 24)).heap.size by simp)
  clear hna
  obtain ⟨W0, hW0⟩ : ∃ W0, W0 = ((w.alloc (.cells #[.int .u8 k0, .int .i64 a, .int .u32 (s : Int)] 45)).alloc (.cells #[.map none] 50)).alloc (.cells #[.pointer none, .pointer (some ⟨w.heap.size + 1, 0, none⟩)] 24) := ⟨_, rfl⟩
  rw [← hW0] at HL HA1 HA2 HG HS
  rw [← hW0]
  clear hW0
  go_loopw [5] (fun t5 wr => ∃ (k : Nat), k ≤ 2 ∧ t5 = .int .i64 (k : Int) ∧ Hid (Touch [] W0 wr)) (fun t5 _ => 2 - (intOf t5).toNat)
  case atStart => exact ⟨0, by omega, rfl, Lib.hid (Touch.refl _ _)⟩
  case round =>
    obtain ⟨k, hk, rfl, HGr⟩ := hrel
    by_cases hlt : k < 2
    · have b0 : (0 : Int) ≤ (k : Int) := by omega
      have b1 : (k : Int) < 2 := by omega
      obtain ⟨v, hv, hn⟩ := HL.out k hlt
      have hsz := HS.out
      have hcv : wr.cell? ⟨w.heap.size + 1 + 1, k, none⟩ = some v := (HGr.out.cell (a := ⟨w.heap.size + 1 + 1, k, none⟩) (show w.heap.size + 1 + 1 < W0.heap.size by omega) (by simp)).trans hv
      have hca : wr.cell? ⟨w.heap.size, 1, none⟩ = some (.int .i64 a) := (HGr.out.cell (a := ⟨w.heap.size, 1, none⟩) (show w.heap.size < W0.heap.size by omega) (by simp)).trans HA1.out
      have hcs : wr.cell? ⟨w.heap.size, 2, none⟩ = some (.int .u32 (s : Int)) := (HGr.out.cell (a := ⟨w.heap.size, 2, none⟩) (show w.heap.size < W0.heap.size by omega) (by simp)).trans HA2.out
      have HN := Lib.hid (hn.later (HGr.out.below (Nat.le_refl _) (by simp)))
      clear hv hn hsz
      go_upto_region 6 with (fail)
      go_quiet (first | (go_at_call 20; refine Calls.quiet_of_same ((add_no (HN.out.later (grow_drewN wr _)) (.int .i64 a) (.int .u32 (s : Int))).mono fun e w' h => ⟨h.1, h.2.symm⟩)))
      have hcv1 : (wr.drewN nq).cell? ⟨w.heap.size + 1 + 1, k, none⟩ = some v := hcv
      have hca1 : (wr.drewN nq).cell? ⟨w.heap.size, 1, none⟩ = some (.int .i64 a) := hca
      have hcs1 : (wr.drewN nq).cell? ⟨w.heap.size, 2, none⟩ = some (.int .u32 (s : Int)) := hcs
      have HN1 := Lib.hid (HN.out.later (grow_drewN wr nq))
      have HG1 := Lib.hid (HGr.out.trans (touch_drewN [] wr nq) (by simp))
      clear hcv hca hcs HN HGr
      generalize wr.drewN nq = wx0 at hcv1 hca1 hcs1 HN1 HG1 ⊢
      have hcv := hcv1
      have hca := hca1
      have hcs := hcs1
      have HN := HN1
      have HGr := HG1
      clear hcv1 hca1 hcs1 HN1 HG1
      clear nq
      go_upto_region 7 with (fail)
      go_quiet (first | (go_at_call 21; refine Calls.quiet_of_same ((cancel_no (HN.out.later (grow_drewN wx0 _)) (.int .i64 a) (.int .u32 (s : Int))).mono fun e w' h => ⟨h.1, h.2.symm⟩)))
      have hcv1 : (wx0.drewN nq).cell? ⟨w.heap.size + 1 + 1, k, none⟩ = some v := hcv
      have hca1 : (wx0.drewN nq).cell? ⟨w.heap.size, 1, none⟩ = some (.int .i64 a) := hca
      have hcs1 : (wx0.drewN nq).cell? ⟨w.heap.size, 2, none⟩ = some (.int .u32 (s : Int)) := hcs
      have HN1 := Lib.hid (HN.out.later (grow_drewN wx0 nq))
      have HG1 := Lib.hid (HGr.out.trans (touch_drewN [] wx0 nq) (by simp))
      clear hcv hca hcs HN HGr
      generalize wx0.drewN nq = wx1 at hcv1 hca1 hcs1 HN1 HG1 ⊢
      have hcv := hcv1
      have hca := hca1
      have hcs := hcs1
      have HN := HN1
      have HGr := HG1
      clear hcv1 hca1 hcs1 HN1 HG1
      clear nq
      go_upto_region 8 with (fail)
      go_quiet (first | (go_at_call 22; refine Calls.quiet_of_same ((drop_no (HN.out.later (grow_drewN wx1 _)) (.int .u32 (s : Int))).mono fun e w' h => ⟨h.1, h.2.symm⟩)))
      have hcv1 : (wx1.drewN nq).cell? ⟨w.heap.size + 1 + 1, k, none⟩ = some v := hcv
      have hca1 : (wx1.drewN nq).cell? ⟨w.heap.size, 1, none⟩ = some (.int .i64 a) := hca
      have hcs1 : (wx1.drewN nq).cell? ⟨w.heap.size, 2, none⟩ = some (.int .u32 (s : Int)) := hcs
      have HN1 := Lib.hid (HN.out.later (grow_drewN wx1 nq))
      have HG1 := Lib.hid (HGr.out.trans (touch_drewN [] wx1 nq) (by simp))
      clear hcv hca hcs HN HGr
      generalize wx1.drewN nq = wx2 at hcv1 hca1 hcs1 HN1 HG1 ⊢
      have hcv := hcv1
      have hca := hca1
      have hcs := hcs1
      have HN := HN1
      have HGr := HG1
      clear hcv1 hca1 hcs1 HN1 HG1
      clear nq
      go_upto_region 9 with (fail)
      go_quiet (first | (go_at_call 10; refine Calls.quiet_of_same ((last_no (HN.out.later (grow_drewN wx2 _)) (.int .i64 a)).mono fun e w' h => ⟨h.1, h.2.symm⟩)))
      have hcv1 : (wx2.drewN nq).cell? ⟨w.heap.size + 1 + 1, k, none⟩ = some v := hcv
      have hca1 : (wx2.drewN nq).cell? ⟨w.heap.size, 1, none⟩ = some (.int .i64 a) := hca
      have hcs1 : (wx2.drewN nq).cell? ⟨w.heap.size, 2, none⟩ = some (.int .u32 (s : Int)) := hcs
      have HN1 := Lib.hid (HN.out.later (grow_drewN wx2 nq))
      have HG1 := Lib.hid (HGr.out.trans (touch_drewN [] wx2 nq) (by simp))
      clear hcv hca hcs HN HGr
      generalize wx2.drewN nq = wx3 at hcv1 hca1 hcs1 HN1 HG1 ⊢
      have hcv := hcv1
      have hca := hca1
      have hcs := hcs1
      have HN := HN1
      have HGr := HG1
      clear hcv1 hca1 hcs1 HN1 HG1
      clear nq
      go_upto_region 10 with (fail)
      go_quiet (first | (go_at_call 11; refine Calls.quiet_of_same ((revoked_no (HN.out.later (grow_drewN wx3 _)) (.int .i64 a) (.int .u32 (s : Int))).mono fun e w' h => ⟨h.1, h.2.symm⟩)) | (go_at_call 13; refine Calls.quiet_of_same ((of_no (HN.out.later (grow_drewN wx3 _)) (.int .u32 (s : Int))).mono fun e w' h => ⟨h.1, h.2.symm⟩)) | (go_at_call 12; refine Calls.quiet_of_same ((len_no (HN.out.later (grow_drewN wx3 _)) ).mono fun e w' h => ⟨h.1, h.2.symm⟩)))
      have hcv1 : (wx3.drewN nq).cell? ⟨w.heap.size + 1 + 1, k, none⟩ = some v := hcv
      have hca1 : (wx3.drewN nq).cell? ⟨w.heap.size, 1, none⟩ = some (.int .i64 a) := hca
      have hcs1 : (wx3.drewN nq).cell? ⟨w.heap.size, 2, none⟩ = some (.int .u32 (s : Int)) := hcs
      have HN1 := Lib.hid (HN.out.later (grow_drewN wx3 nq))
      have HG1 := Lib.hid (HGr.out.trans (touch_drewN [] wx3 nq) (by simp))
      clear hcv hca hcs HN HGr
      generalize wx3.drewN nq = wx4 at hcv1 hca1 hcs1 HN1 HG1 ⊢
      have hcv := hcv1
      have hca := hca1
      have hcs := hcs1
      have HN := HN1
      have HGr := HG1
      clear hcv1 hca1 hcs1 HN1 HG1
      clear nq
      go_wp2_with fail
      go_roundw
      case rel => exact ⟨k + 1, by omega, by go_num, HGr⟩
      case measure => simp [intOf]; omega
    · obtain rfl : k = 2 := by omega
      go_wp2_with fail
      refine (awake_ok _).mono ?_
      intro e w' hpost
      obtain ⟨he, hg⟩ := hpost
      subst he
      have HGf := Lib.hid (Grow.trans HG.out (Grow.trans (HGr.out.below (Nat.le_refl _) (by simp)) hg))
      clear hg
      go_wp2_with fail
      go_ret
      exact ⟨rfl, HGf.out⟩
#print axioms nil_walk
end Go.Proofs.Ytbpejjgjjjmlkaa
