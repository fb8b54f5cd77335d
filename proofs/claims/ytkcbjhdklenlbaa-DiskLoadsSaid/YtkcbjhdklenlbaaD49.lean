/- does for Flush and Power. -/
import Derived.Test.YtkcbjhdklenlbaaD48
set_option linter.unusedVariables false
set_option linter.unusedSimpArgs false
namespace Go.Proofs.Ytkcbjhdklenlbaa
open Go.RowKit

theorem Did.mk {B R : Nat} {S T S' T' : List Nat} {k : Nat} {d' : DS} {w W0 wz : World} (hf : Fair k d') (h1 : IsDisk wz B S' d') (h2 : IsRef wz R T' d') (h3 : ∀ i ∈ S', i ∉ T') (hz : W0.heap.size = w.heap.size + 1) (ht0 : Touch (S ++ T) w W0) (ht : Touch (S ++ T) W0 wz) (h4 : ∀ i ∈ S', i ∈ S ∨ W0.heap.size ≤ i) (h5 : ∀ i ∈ T', i ∈ T ∨ W0.heap.size ≤ i) : Did B R S T k w (.returned (.bool true)) wz := by
  refine ⟨rfl, S', T', d', hf.twin h1 h2 h3, ht0.trans ht (fun i hi => .inl hi), ?_⟩
  intro i hi
  rcases List.mem_append.1 hi with h | h
  · rcases h4 i h with h6 | h6
    · exact .inl (List.mem_append_left _ h6)
    · exact .inr (by omega)
  · rcases h5 i h with h6 | h6
    · exact .inl (List.mem_append_right _ h6)
    · exact .inr (by omega)
set_option maxRecDepth 100000 in
set_option maxHeartbeats 2000000 in
theorem does_flush {w : World} {B R : Nat} {S T : List Nat} {k : Nat} {d : DS} (h : Twin w B R S T k d) (hk : k ≤ 100000) (q at' : Int) (fl : Nat) (vk : Value) (hq : 0 ≤ q ∧ q < 256) (hrr : q.tmod 8 = 4) :
    Calls Try.prog 29 #[.pointer (some ⟨B, 0, none⟩), .pointer (some ⟨R, 0, none⟩), .agg #[.int .u8 q, .int .i64 at', .int .u32 (fl : Int), vk]] w (Did B R S T (k + 1) w) := by
  have hta := Touch.alloc [] w (.cells #[.int .u8 q, .int .i64 at', .int .u32 (fl : Int), vk] 55)
  have h1 := h.kept0 hta
  have HT := Lib.hid h1
  have HTA := Lib.hid (Touch.alloc (S ++ T) w (.cells #[.int .u8 q, .int .i64 at', .int .u32 (fl : Int), vk] 55))
  have hob := heap_alloc_last w (.cells #[.int .u8 q, .int .i64 at', .int .u32 (fl : Int), vk] 55)
  have x0 := cell_at hob 0
  have x1 := cell_at hob 1
  have HPL := Lib.hid (show w.heap.size < (w.alloc (.cells #[.int .u8 q, .int .i64 at', .int .u32 (fl : Int), vk] 55)).heap.size by simp)
  have HPS := Lib.hid (show w.heap.size ∉ S ++ T by
    intro hm
    rcases List.mem_append.1 hm with h1 | h1
    · have := h.disk.lt _ h1; omega
    · have := h.ref.lt _ h1; omega)
  have HFA := Lib.hid h.fair
  have hws := h.ws
  have hacts := h.acts
  have hleft := h.left
  clear h hta hob h1
  cases hd : d.dead with
  | true =>
    have HX := Lib.hid hd
    clear hd
    go_enter Try.func29, Try.ntmps29
    go_wp2_with fail
    have HZ := Lib.hid (show (w.alloc (.cells #[.int .u8 q, .int .i64 at', .int .u32 (fl : Int), vk] 55)).heap.size = w.heap.size + 1 by simp)
    generalize w.alloc (.cells #[.int .u8 q, .int .i64 at', .int .u32 (fl : Int), vk] 55) = W0 at *
    refine (flush_dead HT.out.disk HX.out).mono ?_
    rintro e w' ⟨rfl, rfl⟩
    go_wp2_with fail
    refine (rflush_dead HT.out.ref HX.out).mono ?_
    rintro e w' ⟨rfl, rfl⟩
    go_wp2_with fail
    go_ret
    exact Did.mk HFA.out.more HT.out.disk HT.out.ref HT.out.apart HZ.out HTA.out (Touch.refl _ _) (fun i hi => .inl hi) (fun i hi => .inl hi)
  | false =>
    have HX := Lib.hid hd
    clear hd
    go_enter Try.func29, Try.ntmps29
    go_wp2_with fail
    have HZ := Lib.hid (show (w.alloc (.cells #[.int .u8 q, .int .i64 at', .int .u32 (fl : Int), vk] 55)).heap.size = w.heap.size + 1 by simp)
    generalize w.alloc (.cells #[.int .u8 q, .int .i64 at', .int .u32 (fl : Int), vk] 55) = W0 at *
    refine (flush_ok HT.out.disk HX.out HFA.out.wlt (by omega) (by omega) hleft).mono ?_
    intro e w1 hpost
    obtain ⟨he, h1, ht1⟩ := hpost
    subst he
    have HD1 := Lib.hid h1
    have HR1 := Lib.hid (HT.out.ref.kept ht1 (fun i hi hm => HT.out.apart i hm hi))
    have HT1 := Lib.hid ht1
    clear h1 ht1
    go_wp2_with fail
    refine (rflush_ok HR1.out HX.out HFA.out.wlt (by omega) (by omega) hleft).mono ?_
    intro e w2 hpost
    obtain ⟨he, T', h2, ht2, hT'⟩ := hpost
    subst he
    have HF := Lib.hid (show Did B R S T (k + 1) w (.returned (.bool true)) w2 from Did.mk (HFA.out.flushed HX.out) (HD1.out.kept ht2 HT.out.apart) h2 (fun i hi hm => by
        rcases hT' i hm with h | h
        · exact HT.out.apart i hi h
        · have := HT.out.disk.lt i hi; have := HT1.out.size; omega) HZ.out HTA.out ((HT1.out.mono (S' := S ++ T) (fun i hi => .inl (List.mem_append_left _ hi))).trans ht2 (fun i hi => .inl (List.mem_append_right _ hi))) (fun i hi => .inl hi) (fun i hi => (hT' i hi).imp id (Nat.le_trans HT1.out.size)))
    clear h2 ht2 hT'
    go_wp2_with fail
    go_ret
    exact HF.out
#print axioms does_flush
set_option maxRecDepth 100000 in
set_option maxHeartbeats 2000000 in
theorem does_power {w : World} {B R : Nat} {S T : List Nat} {k : Nat} {d : DS} (h : Twin w B R S T k d) (hk : k ≤ 100000) (q at' : Int) (ha : at' ≤ 9223372036854775807) (fl : Nat) (vk : Value) (hq : 0 ≤ q ∧ q < 256) (hrr : q.tmod 8 = 6) :
    Calls Try.prog 29 #[.pointer (some ⟨B, 0, none⟩), .pointer (some ⟨R, 0, none⟩), .agg #[.int .u8 q, .int .i64 at', .int .u32 (fl : Int), vk]] w (Did B R S T (k + 1) w) := by
  have hta := Touch.alloc [] w (.cells #[.int .u8 q, .int .i64 at', .int .u32 (fl : Int), vk] 55)
  have h1 := h.kept0 hta
  have HT := Lib.hid h1
  have HTA := Lib.hid (Touch.alloc (S ++ T) w (.cells #[.int .u8 q, .int .i64 at', .int .u32 (fl : Int), vk] 55))
  have hob := heap_alloc_last w (.cells #[.int .u8 q, .int .i64 at', .int .u32 (fl : Int), vk] 55)
  have x0 := cell_at hob 0
  have x1 := cell_at hob 1
  have HPL := Lib.hid (show w.heap.size < (w.alloc (.cells #[.int .u8 q, .int .i64 at', .int .u32 (fl : Int), vk] 55)).heap.size by simp)
  have HPS := Lib.hid (show w.heap.size ∉ S ++ T by
    intro hm
    rcases List.mem_append.1 hm with h1 | h1
    · have := h.disk.lt _ h1; omega
    · have := h.ref.lt _ h1; omega)
  have HFA := Lib.hid h.fair
  have hws := h.ws
  have hacts := h.acts
  have hleft := h.left
  clear h hta hob h1
  go_enter Try.func29, Try.ntmps29
  go_wp2_with fail
  have HZ := Lib.hid (show (w.alloc (.cells #[.int .u8 q, .int .i64 at', .int .u32 (fl : Int), vk] 55)).heap.size = w.heap.size + 1 by simp)
  generalize w.alloc (.cells #[.int .u8 q, .int .i64 at', .int .u32 (fl : Int), vk] 55) = W0 at *
  refine (power_any HT.out.disk at').mono ?_
  intro e w1 hpost
  obtain ⟨⟨ve, he⟩, h1, ht1⟩ := hpost
  subst he
  have hB : B ∈ S := by obtain ⟨gs, cs, gl, cl, vw, hp⟩ := HT.out.disk; exact hp.inB
  have hR : R ∈ T := by obtain ⟨g, c, vw, hp⟩ := HT.out.ref; exact hp.inR
  have HD1 := Lib.hid h1
  have HR1 := Lib.hid (HT.out.ref.kept ht1 (fun i hi hm => HT.out.apart i (by rw [List.mem_singleton.1 hm]; exact hB) hi))
  have HT1 := Lib.hid ht1
  have y1 := (ht1.cell (a := ⟨w.heap.size, 1, none⟩) HPL.out (by intro hm; have e := List.mem_singleton.1 hm; exact HPS.out (List.mem_append_left _ (by rw [show w.heap.size = B from e]; exact hB)))).trans x1
  clear h1 ht1 x1 x0
  go_wp2_with fail
  refine (rpower_ok HR1.out at').mono ?_
  intro e w2 hpost
  obtain ⟨⟨ve2, he⟩, h2, ht2⟩ := hpost
  subst he
  have HF := Lib.hid (show Did B R S T (k + 1) w (.returned (.bool true)) w2 from Did.mk (HFA.out.powered at' ha).more (HD1.out.kept ht2 (fun i hi hm => HT.out.apart i hi (by rw [List.mem_singleton.1 hm]; exact hR))) h2 HT.out.apart HZ.out HTA.out ((HT1.out.mono (S' := S ++ T) (fun i hi => .inl (List.mem_append_left _ (by rw [List.mem_singleton.1 hi]; exact hB)))).trans ht2 (fun i hi => .inl (List.mem_append_right _ (by rw [List.mem_singleton.1 hi]; exact hR)))) (fun i hi => .inl hi) (fun i hi => .inl hi))
  clear h2 ht2
  go_wp2_with fail
  go_ret
  exact HF.out
#print axioms does_power
end Go.Proofs.Ytkcbjhdklenlbaa
