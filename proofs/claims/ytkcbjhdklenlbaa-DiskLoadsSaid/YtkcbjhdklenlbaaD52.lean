/- does for Crash. -/
import Derived.Test.YtkcbjhdklenlbaaD51
set_option linter.unusedVariables false
set_option linter.unusedSimpArgs false
namespace Go.Proofs.Ytkcbjhdklenlbaa
open Go.RowKit

theorem Bools.part {w : World} {S S' : List Nat} {v : Value} {ks : List Bool} (h : Bools w S v ks) (hs : ∀ k ∈ S', k ∈ S) : Bools w S' v ks := by
  obtain ⟨a, cap, rfl, h⟩ := h
  exact ⟨a, cap, rfl, fun i x hx => (h i x hx).elim fun y hy => ⟨y, hy.1, hy.2.1, fun hm => hy.2.2.1 (hs _ hm), hy.2.2.2⟩⟩
theorem Bools.kept {w w' : World} {S U : List Nat} {v : Value} {ks : List Bool} (h : Bools w S v ks) (ht : Touch U w w') (hu : ∀ k ∈ U, k ∈ S) : Bools w' S v ks := by
  obtain ⟨a, cap, rfl, h⟩ := h
  refine ⟨a, cap, rfl, fun i x hx => ?_⟩
  obtain ⟨y, rfl, h1, h2, h3⟩ := h i x hx
  exact ⟨y, rfl, Nat.lt_of_lt_of_le h1 ht.size, h2, (ht.cell (a := y.add i) (by rw [add_block]; exact h1) (by rw [add_block]; exact fun hm => h2 (hu _ hm))).trans h3⟩
theorem Bools.cell {w : World} {S : List Nat} {a : Option Addr} {n cap : Nat} {ks : List Bool} (h : Bools w S (.slice a n cap) ks) {i : Nat} {x : Bool} (hx : ks[i]? = some x) : ∃ y : Addr, a = some y ∧ w.cell? (y.add i) = some (.bool x) := by
  obtain ⟨a', cap', e, h⟩ := h
  cases e
  obtain ⟨y, h1, _, _, h2⟩ := h i x hx
  exact ⟨y, h1, h2⟩
theorem touch_drewND (w : World) (n : Nat) : Touch [] w (w.drewN n) := ⟨rfl, rfl, rfl, Nat.le_refl _, fun _ _ _ => rfl⟩
theorem Did.later {B R : Nat} {S T : List Nat} {k : Nat} {w w3 wr : World} {e : Ending} (h : Did B R S T k w e w3) (ht : Touch [] w3 wr) : Did B R S T k w e wr := by
  obtain ⟨he, S', T', d', h1, h2, h3⟩ := h
  exact ⟨he, S', T', d', h1.kept0 ht, h2.trans ht (by simp), h3⟩
set_option maxRecDepth 100000 in
set_option maxHeartbeats 4000000 in
theorem does_crash {w : World} {B R : Nat} {S T : List Nat} {k : Nat} {d : DS} (h : Twin w B R S T k d) (hk : k ≤ 100000) (q at' : Int) (fl : Nat) (a1 : Option Addr) (n cap1 : Nat) (ks : List Bool) (hn : n = ks.length) (hb : Bools w (S ++ T) (.slice a1 n cap1) ks) (hnil : a1 = none → cap1 = 0 ∧ n = 0) (hkl : n ≤ 140737488351232) (hq : 0 ≤ q ∧ q < 256) (hrr : q.tmod 8 = 7) :
    Calls Try.prog 29 #[.pointer (some ⟨B, 0, none⟩), .pointer (some ⟨R, 0, none⟩), .agg #[.int .u8 q, .int .i64 at', .int .u32 (fl : Int), .slice a1 n cap1]] w (Did B R S T (k + 1) w) := by
  have hta := Touch.alloc [] w (.cells #[.int .u8 q, .int .i64 at', .int .u32 (fl : Int), .slice a1 n cap1] 55)
  have HT := Lib.hid (h.kept0 hta)
  have HBO := Lib.hid (hb.kept hta (by simp))
  have HTA := Lib.hid (Touch.alloc (S ++ T) w (.cells #[.int .u8 q, .int .i64 at', .int .u32 (fl : Int), .slice a1 n cap1] 55))
  have hob := heap_alloc_last w (.cells #[.int .u8 q, .int .i64 at', .int .u32 (fl : Int), .slice a1 n cap1] 55)
  have x0 := cell_at hob 0
  have HX3 := Lib.hid (cell_at hob 3)
  have HPL := Lib.hid (show w.heap.size < (w.alloc (.cells #[.int .u8 q, .int .i64 at', .int .u32 (fl : Int), .slice a1 n cap1] 55)).heap.size by simp)
  have HPS := Lib.hid (show w.heap.size ∉ S ++ T by
    intro hm
    rcases List.mem_append.1 hm with h1 | h1
    · have := h.disk.lt _ h1; omega
    · have := h.ref.lt _ h1; omega)
  have HFA := Lib.hid h.fair
  have hws := h.ws
  have HN := Lib.hid hn
  have HNL := Lib.hid hnil
  have hmk := mk_bools
  clear h hta hob hb hn hnil
  go_enter Try.func29, Try.ntmps29
  go_upto_region 13 with (fail)
  have HZ := Lib.hid (show (w.alloc (.cells #[.int .u8 q, .int .i64 at', .int .u32 (fl : Int), .slice a1 n cap1] 55)).heap.size = w.heap.size + 1 by simp)
  generalize w.alloc (.cells #[.int .u8 q, .int .i64 at', .int .u32 (fl : Int), .slice a1 n cap1] 55) = W0 at *
  have hga := Touch.alloc [] W0 (.cells #[] 4)
  have x3 := (hga.cell (a := ⟨w.heap.size, 3, none⟩) HPL.out (by simp)).trans HX3.out
  have HBA := Lib.hid (HBO.out.kept hga (by simp))
  clear hga x0
  go_wp2_with (at_builtin; refine wpList_append_bools rfl _ _ rfl W0.heap.size rfl (World.ownsRow_made W0 #[] 0 (Nat.zero_le _) (by unfold maxLen; omega) rfl) a1 n cap1 ks rfl HN.out.symm HNL.out ?c1 (by omega) ?c2 ?_)
  case c1 => intro ad e j z hz; subst e; obtain ⟨y, e, hc⟩ := HBA.out.cell hz; cases e; exact hc
  case c2 => exact ⟨rfl, rfl, rfl, Nat.le_refl _, fun _ _ _ => rfl⟩
  intro v' w1 hcp
  have hg1 : Touch [W0.heap.size] (W0.alloc (.cells #[] 4)) w1 := Touch.grown hcp.2.2 (fun k e => by cases e; simp)
  have HTo1 := Lib.hid (show Touch [] W0 w1 from (Touch.alloc [] W0 (.cells #[] 4)).trans hg1 (fun i hi => .inr (by rw [List.mem_singleton.1 hi]; exact Nat.le_refl _)))
  have HSL := Lib.hid (show ∀ i ∈ S ++ T, i < W0.heap.size from fun i hi => by
    rcases List.mem_append.1 hi with h | h
    · exact HT.out.disk.lt i h
    · exact HT.out.ref.lt i h)
  have HCB := Lib.hid (hcp.bools (S ++ T) (fun i hi => by have := HSL.out i hi; exact ⟨by omega, by simp; omega⟩))
  have HTw := Lib.hid (HT.out.kept0 HTo1.out)
  have HBw := Lib.hid (HBO.out.kept HTo1.out (by simp))
  have HX3w := Lib.hid ((HTo1.out.cell (a := ⟨w.heap.size, 3, none⟩) HPL.out (by simp)).trans HX3.out)
  have HPLw := Lib.hid (Nat.lt_of_lt_of_le HPL.out HTo1.out.size)
  obtain ⟨a2, cap2, hv⟩ : ∃ a2 cap2, v' = .slice a2 n cap2 := by
    obtain ⟨a2, cap2, hv⟩ := hcp.row.len
    rw [List.length_map, ← HN.out] at hv
    exact ⟨a2, cap2, hv⟩
  subst hv
  clear hcp hg1 x3
  go_wp2_with fail
  refine (crash_ok HTw.out.disk _ ks (HCB.out.part (fun i hi => List.mem_append_left _ hi)) (by rw [← HN.out]; omega) HFA.out.wlt (by omega)).mono ?_
  intro e w2 hpost
  obtain ⟨⟨ve, he⟩, hd2, ht2⟩ := hpost
  subst he
  have HD2 := Lib.hid hd2
  have HTo2 := Lib.hid (ht2.mono (S' := S ++ T) (fun i hi => .inl (List.mem_append_left _ hi)))
  have HR2 := Lib.hid (HTw.out.ref.kept ht2 (fun i hi hm => HTw.out.apart i hm hi))
  have HB2 := Lib.hid (HBw.out.kept HTo2.out (fun i hi => hi))
  have HC2 := Lib.hid (HCB.out.kept HTo2.out (fun i hi => hi))
  have y3 := (HTo2.out.cell (a := ⟨w.heap.size, 3, none⟩) HPLw.out HPS.out).trans HX3w.out
  have HPL2 := Lib.hid (Nat.lt_of_lt_of_le HPLw.out HTo2.out.size)
  have HY3 := Lib.hid y3
  clear hd2 ht2
  go_wp2_with fail
  refine (rcrash_ok HR2.out _ ks (HB2.out.part (fun i hi => List.mem_append_right _ hi)) (by rw [← HN.out]; omega) HFA.out.wlt (by omega)).mono ?_
  intro e w3 hpost
  obtain ⟨⟨ve2, he⟩, hr3, ht3⟩ := hpost
  subst he
  have HTo3 := Lib.hid (ht3.mono (S' := S ++ T) (fun i hi => .inl (List.mem_append_right _ hi)))
  have HF := Lib.hid (show Did B R S T (k + 1) w (.returned (.bool true)) w3 from Did.mk (HFA.out.crashed ks).more (HD2.out.kept ht3 HTw.out.apart) hr3 HTw.out.apart HZ.out HTA.out (((HTo1.out.mono (S' := S ++ T) (by simp)).trans HTo2.out (fun i hi => .inl hi)).trans HTo3.out (fun i hi => .inl hi)) (fun i hi => .inl hi) (fun i hi => .inl hi))
  have HB3 := Lib.hid (HB2.out.kept HTo3.out (fun i hi => hi))
  have HC3 := Lib.hid (HC2.out.kept HTo3.out (fun i hi => hi))
  have HZ3 := Lib.hid ((HTo3.out.cell (a := ⟨w.heap.size, 3, none⟩) HPL2.out HPS.out).trans HY3.out)
  clear hr3 ht3 y3
  go_wp2_with fail
  go_loopw [12] (fun t wr => ∃ i : Nat, i ≤ n ∧ t = .int .i64 (i : Int) ∧ Hid (Touch [] w3 wr)) (fun t _ => n - (intOf t).toNat)
  case atStart => exact ⟨0, by omega, rfl, Lib.hid (Touch.refl _ _)⟩
  case round =>
    obtain ⟨i, hi, rfl, HTr⟩ := hrel
    by_cases hlt : i < n
    · have hil : i < ks.length := by rw [← HN.out]; exact hlt
      obtain ⟨z, hz⟩ : ∃ z, ks[i]? = some z := ⟨ks[i], by simp [hil]⟩
      obtain ⟨y1, e1, c1⟩ := (HB3.out.kept HTr.out (by simp)).cell hz
      obtain ⟨y2, e2, c2⟩ := (HC3.out.kept HTr.out (by simp)).cell hz
      subst e1
      subst e2
      have c3 := (HTr.out.cell (a := ⟨w.heap.size, 3, none⟩) (by have := HPL2.out; have := HTo3.out.size; show w.heap.size < _; omega) (by simp)).trans HZ3.out
      have b0 : (0 : Int) ≤ (i : Int) := by omega
      have b1 : (i : Int) < (n : Int) := by omega
      clear hil hz
      go_wp2_with fail
      go_quiet (fail)
      go_wp2_with fail
      go_roundw
      case rel => exact ⟨i + 1, by omega, by go_num, Lib.hid (HTr.out.trans (touch_drewND _ _) (by simp))⟩
      case measure => simp [intOf]; omega
    · obtain rfl : n = i := by omega
      have HF2 := Lib.hid (HF.out.later HTr.out)
      go_wp2_with fail
      go_ret
      exact HF2.out
#print axioms does_crash
end Go.Proofs.Ytkcbjhdklenlbaa
