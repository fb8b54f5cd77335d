/- does for Read. -/
import Derived.Test.YtkcbjhdklenlbaaD49
set_option linter.unusedVariables false
set_option linter.unusedSimpArgs false
namespace Go.Proofs.Ytkcbjhdklenlbaa
open Go.RowKit

theorem both_read {w : World} {B R : Nat} {S T : List Nat} {k : Nat} {d : DS} (h : Twin w B R S T k d) (hk : k ≤ 100000) (b : Int) : ∃ (Y : Blk) (c : Int), Y.length = 256 ∧
    (∀ wq, IsDisk wq B S d → Calls Try.prog 19 #[.pointer (some ⟨B, 0, none⟩), .int .i64 b] wq fun e w' => e = .returned (.tuple #[.agg (bc Y).toArray, .int .i64 c]) ∧ Grow wq w') ∧
    (∀ wq, IsRef wq R T d → Calls Try.prog 39 #[.pointer (some ⟨R, 0, none⟩), .int .i64 b] wq fun e w' => e = .returned (.tuple #[.agg (bc Y).toArray, .int .i64 c]) ∧ Grow wq w') := by
  by_cases hy : d.why b = 0
  · obtain ⟨hd, h0, h1⟩ := DS.why_ok hy
    obtain ⟨n, rfl⟩ : ∃ n : Nat, b = (n : Int) := ⟨b.toNat, by omega⟩
    have hn : n < d.safe.length := by omega
    have hl : n < d.last.length := by rw [h.last, applyW_length]; exact hn
    have he : d.last[n] = atB d.safe d.ws n := by
      unfold atB
      rw [← h.last, List.getElem?_eq_getElem hl]
      rfl
    refine ⟨atB d.safe d.ws n, 0, ?_, fun wq hq => ?_, fun wq hq => rread_ok hq n hn hd (by have := h.ws; omega)⟩
    · obtain ⟨g, c, vw, hr⟩ := h.ref
      exact atB_len hr n hn
    · rw [← he]
      exact read_ok hq n hl hd
  · refine ⟨zeroB, d.why b, by rw [← bc_length, bc_zero, List.length_replicate], fun wq hq => read_refused b (d.why b) (by simpa using hy) (fun w' hg => refuseAt_any (hq.kept (Touch.of_below (S := []) hg) (by simp)) b), fun wq hq => rread_no hq b hy⟩
set_option maxRecDepth 100000 in
set_option maxHeartbeats 4000000 in
theorem does_read {w : World} {B R : Nat} {S T : List Nat} {k : Nat} {d : DS} (h : Twin w B R S T k d) (hk : k ≤ 100000) (q at' : Int) (fl : Nat) (vk : Value) (hq : 0 ≤ q ∧ q < 256) (hrr : q.tmod 8 = 5) :
    Calls Try.prog 29 #[.pointer (some ⟨B, 0, none⟩), .pointer (some ⟨R, 0, none⟩), .agg #[.int .u8 q, .int .i64 at', .int .u32 (fl : Int), vk]] w (Did B R S T (k + 1) w) := by
  have hta := Touch.alloc [] w (.cells #[.int .u8 q, .int .i64 at', .int .u32 (fl : Int), vk] 55)
  have h1 := h.kept0 hta
  have HT := Lib.hid h1
  have HTA := Lib.hid (Touch.alloc (S ++ T) w (.cells #[.int .u8 q, .int .i64 at', .int .u32 (fl : Int), vk] 55))
  have hob := heap_alloc_last w (.cells #[.int .u8 q, .int .i64 at', .int .u32 (fl : Int), vk] 55)
  have x0 := cell_at hob 0
  have x1 := cell_at hob 1
  have HPL := Lib.hid (show w.heap.size < (w.alloc (.cells #[.int .u8 q, .int .i64 at', .int .u32 (fl : Int), vk] 55)).heap.size by simp)
  have HFA := Lib.hid h.fair
  obtain ⟨Y, c, hY, hr1, hr2⟩ := both_read h hk at'
  have HR1 := Lib.hid hr1
  have HR2 := Lib.hid hr2
  have hz := zero32
  have hzs := zero_size
  have HYs := Lib.hid (show (bc Y).length = 256 by rw [bc_length]; exact hY)
  have hq1 := fun w => equal32 Y hY w
  have HSz := Lib.hid (show (Try.prog.info? 32).map (·.size) = some (bc Y).toArray.size by rw [List.size_toArray, HYs.out]; exact size32)
  have HO := Lib.hid (show (bc Y).toArray.all (·.oneCell') = true from all_oneCell_toArray (bc_one _))
  generalize (bc zeroB).toArray = Z at *
  have HSo := Lib.hid (show Z.size = (bc Y).toArray.size from hzs.trans (show 256 = (bc Y).toArray.size by rw [List.size_toArray, HYs.out]))
  have hgT := guardT
  generalize (bc Y).toArray = X at *
  clear h hta hob h1 hr1 hr2 hzs hY
  go_enter Try.func29, Try.ntmps29
  go_wp2_with fail
  have HZ := Lib.hid (show (w.alloc (.cells #[.int .u8 q, .int .i64 at', .int .u32 (fl : Int), vk] 55)).heap.size = w.heap.size + 1 by simp)
  generalize w.alloc (.cells #[.int .u8 q, .int .i64 at', .int .u32 (fl : Int), vk] 55) = W0 at *
  refine (HR1.out W0 HT.out.disk).mono ?_
  intro e w1 hpost
  obtain ⟨he, hg⟩ := hpost
  subst he
  have HG1 := Lib.hid hg
  clear hg
  go_upto_region 6 with (refine wpList_store_row rfl 32 _ _ rfl w1.heap.size X rfl rfl 32 Z (heap_alloc_last _ _) HSz.out HSo.out HO.out ?_)
  have HB2 := Lib.hid (show Below w1.heap.size w1 ((w1.alloc (.cells Z 32)).setRow w1.heap.size X) from below_setRow ((Below.refl _ _).alloc (Nat.le_refl _) _) (Nat.le_refl _) _)
  have HX2 := Lib.hid (show ((w1.alloc (.cells Z 32)).setRow w1.heap.size X).heap[w1.heap.size]? = some (.cells X 32) from setRow_heap _ _ _ _ _ _ (heap_alloc_last _ _))
  generalize (w1.alloc (.cells Z 32)).setRow w1.heap.size X = W2 at *
  have HG2 := Lib.hid (show Grow W0 W2 from Below.trans HG1.out (HB2.out.mono HG1.out.size))
  have y1 := (HG2.out.cell (p := ⟨w.heap.size, 1, none⟩) HPL.out).trans x1
  clear x0 x1
  go_wp2_with fail
  refine (HR2.out W2 (HT.out.ref.kept (Touch.of_below (S := []) HG2.out) (by simp))).mono ?_
  intro e w3 hpost
  obtain ⟨he, hg⟩ := hpost
  subst he
  have HG3 := Lib.hid hg
  have HX3 := Lib.hid ((hg.block w1.heap.size (Array.getElem?_eq_some_iff.1 HX2.out).1).trans HX2.out)
  clear hg y1
  go_upto_region 7 with (refine wpList_store_row rfl 32 _ _ rfl w3.heap.size X rfl rfl 32 Z (heap_alloc_last _ _) HSz.out HSo.out HO.out ?_)
  have HB4 := Lib.hid (show Below w3.heap.size w3 ((w3.alloc (.cells Z 32)).setRow w3.heap.size X) from below_setRow ((Below.refl _ _).alloc (Nat.le_refl _) _) (Nat.le_refl _) _)
  have HX4 := Lib.hid (show ((w3.alloc (.cells Z 32)).setRow w3.heap.size X).heap[w3.heap.size]? = some (.cells X 32) from setRow_heap _ _ _ _ _ _ (heap_alloc_last _ _))
  generalize (w3.alloc (.cells Z 32)).setRow w3.heap.size X = W4 at *
  have HX5 := Lib.hid ((HB4.out.block w1.heap.size (Array.getElem?_eq_some_iff.1 HX3.out).1).trans HX3.out)
  have HG4 := Lib.hid (show Grow W0 W4 from Below.trans HG2.out (Below.mono (Below.trans HG3.out (HB4.out.mono HG3.out.size)) HG2.out.size))
  go_wp2_with (first | (refine wpList_load_row rfl 32 _ rfl w1.heap.size rfl 32 X (0, 0) _ HX5.out Try.underlying32 rfl HSz.out ?_) | (refine wpList_load_row rfl 32 _ rfl w3.heap.size rfl 32 X (0, 0) _ HX4.out Try.underlying32 rfl HSz.out ?_))
  go_ret
  exact Did.mk HFA.out.more (HT.out.disk.kept (Touch.of_below (S := []) HG4.out) (by simp)) (HT.out.ref.kept (Touch.of_below (S := []) HG4.out) (by simp)) HT.out.apart HZ.out HTA.out (Touch.of_below HG4.out) (fun i hi => .inl hi) (fun i hi => .inl hi)
#print axioms does_read
end Go.Proofs.Ytkcbjhdklenlbaa
