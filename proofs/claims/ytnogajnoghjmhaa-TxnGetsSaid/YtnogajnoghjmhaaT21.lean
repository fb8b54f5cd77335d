/- Two transactions beside each other; same. -/
import Derived.Test.YtnogajnoghjmhaaTIn
import Derived.Test.YtnogajnoghjmhaaT18
set_option linter.unusedVariables false
set_option linter.unusedSimpArgs false
namespace Go.Proofs.Ytnogajnoghjmhaa
open Go.RowKit Go.Maps

structure Two (w0 : World) (A B M N seq : Nat) (ta tb : TS) (w : World) : Prop where
  ex : ∃ ia ib, TIs w A M seq ia ta ∧ TIs w B N seq ib tb ∧ (∀ i ∈ ia, w0.heap.size ≤ i ∧ i ∉ ib) ∧ ∀ i ∈ ib, w0.heap.size ≤ i
  grow : Grow w0 w
theorem Two.swap {w0 : World} {A B M N seq : Nat} {ta tb : TS} {w : World} (h : Two w0 A B M N seq ta tb w) : Two w0 B A N M seq tb ta w := by
  obtain ⟨ia, ib, h1, h2, h3, h4⟩ := h.ex
  exact ⟨⟨ib, ia, h2, h1, fun i hi => ⟨h4 i hi, fun hm => (h3 i hm).2 hi⟩, fun i hi => (h3 i hi).1⟩, h.grow⟩
theorem Two.left {w0 : World} {A B M N seq : Nat} {ta tb : TS} {w : World} (h : Two w0 A B M N seq ta tb w) : Live w0 [] A M seq ta w := by
  obtain ⟨ia, ib, h1, h2, h3, h4⟩ := h.ex
  exact ⟨⟨ia, h1, fun i hi => ⟨(h3 i hi).1, by simp⟩⟩, h.grow, by simp⟩
theorem Two.right {w0 : World} {A B M N seq : Nat} {ta tb : TS} {w : World} (h : Two w0 A B M N seq ta tb w) : Live w0 [] B N seq tb w := h.swap.left
theorem Two.later {w0 : World} {A B M N seq : Nat} {ta tb : TS} {w w' : World} (h : Two w0 A B M N seq ta tb w) (hg : Grow w w') : Two w0 A B M N seq ta tb w' := by
  obtain ⟨ia, ib, h1, h2, h3, h4⟩ := h.ex
  exact ⟨⟨ia, ib, h1.kept (Touch.of_below (S := []) hg) (by simp), h2.kept (Touch.of_below (S := []) hg) (by simp), h3, h4⟩, Grow.trans h.grow hg⟩
theorem Two.mono {w0 : World} {A B M N M' N' seq : Nat} {ta tb : TS} {w : World} (h : Two w0 A B M N seq ta tb w) (hm : M ≤ M') (hn : N ≤ N') : Two w0 A B M' N' seq ta tb w := by
  obtain ⟨ia, ib, h1, h2, h3, h4⟩ := h.ex
  exact ⟨⟨ia, ib, h1.mono hm, h2.mono hn, h3, h4⟩, h.grow⟩
def TwoPost (w0 : World) (A B M N seq : Nat) (r : Int × TS) (tb : TS) (w : World) (e : Ending) (w' : World) : Prop := e = .returned (.int .i64 r.1) ∧ Two w0 A B (M + 1) N seq r.2 tb w' ∧ Below w0.heap.size w w'
theorem Two.step {w0 : World} {A B M N seq : Nat} {tb : TS} {w : World} {ia ib : List Nat} {r : Int × TS} {e : Ending} {w' : World} (hg : Grow w0 w) (h2 : TIs w B N seq ib tb) (h3 : ∀ i ∈ ia, w0.heap.size ≤ i ∧ i ∉ ib) (h4 : ∀ i ∈ ib, w0.heap.size ≤ i) (hd : DPost A M seq ia r w e w') : TwoPost w0 A B M N seq r tb w e w' := by
  obtain ⟨he, ia', k1, k2, k3⟩ := hd
  refine ⟨he, ⟨⟨ia', ib, k1, h2.kept k2 (fun i hi hm => (h3 i hm).2 hi), fun i hi => ?_, h4⟩, Below.trans hg (k2.below hg.size (fun j hj => (h3 j hj).1))⟩, k2.below hg.size (fun j hj => (h3 j hj).1)⟩
  rcases k3 i hi with h | h
  · exact h3 i h
  · exact ⟨Nat.le_trans hg.size h, fun hm => by have := h2.lt i hm; omega⟩
section
variable {w0 : World} {A B M N seq : Nat} {ta tb : TS} {w : World} (h : Two w0 A B M N seq ta tb w)
include h
theorem Two.do_ (hN : M ≤ 100000) (hs : seq < 4294967296) {x : AP} (hx : x.ok) : Calls Try.prog 25 #[.pointer (some ⟨A, 0, none⟩), .agg x.cells.toArray] w (TwoPost w0 A B M N seq (doT ta x) tb w) := by
  obtain ⟨ia, ib, h1, h2, h3, h4⟩ := h.ex
  exact (do_any h1 hN hs hx).mono fun e w' hd => Two.step h.grow h2 h3 h4 hd
theorem Two.end_ : Calls Try.prog 12 #[.pointer (some ⟨A, 0, none⟩)] w (TwoPost w0 A B M N seq (endT ta) tb w) := by
  obtain ⟨ia, ib, h1, h2, h3, h4⟩ := h.ex
  exact (end_any h1).mono fun e w' hd => Two.step h.grow h2 h3 h4 hd
theorem Two.undo_ : Calls Try.prog 26 #[.pointer (some ⟨A, 0, none⟩)] w (TwoPost w0 A B M N seq (undoT ta) tb w) := by
  obtain ⟨ia, ib, h1, h2, h3, h4⟩ := h.ex
  exact (undo_any h1).mono fun e w' hd => Two.step h.grow h2 h3 h4 hd
theorem Two.begin_ (hN : M ≤ 100000) (hs : seq < 4294967296) {c r : Int} (hr : IntOk r) : Calls Try.prog 9 #[.pointer (some ⟨A, 0, none⟩), .int .i64 c, .int .i64 r] w (TwoPost w0 A B M N seq (beginT ta c r) tb w) := by
  obtain ⟨ia, ib, h1, h2, h3, h4⟩ := h.ex
  exact (begin_any h1 hN hs hr).mono fun e w' hd => Two.step h.grow h2 h3 h4 hd
end
theorem two_new {seq : Nat} {w0 : World} {A M : Nat} {ta : TS} {w : World} (h : Live w0 [] A M seq ta w) : Calls Try.prog 8 #[.int .u32 (seq : Int)] w fun e w' => ∃ B, e = .returned (.pointer (some ⟨B, 0, none⟩)) ∧ Two w0 A B M 0 seq ta (.c noPS) w' := by
  obtain ⟨ia, h1, h2⟩ := h.ex
  refine (new_ok seq w).mono ?_
  rintro e w' ⟨B, a, he, hT, hg, hi⟩
  have hs := h.grow.size
  exact ⟨B, he, ⟨ia, _, h1.kept (Touch.of_below (S := []) hg) (by simp), ⟨a, rfl, hT⟩, fun i hm => ⟨(h2 i hm).1, fun hq => by have := h1.lt i hm; have := hi i hq; omega⟩, fun i hm => Nat.le_trans hs (hi i hm)⟩, Grow.trans h.grow hg⟩
theorem TIs.small {w : World} {B N seq : Nat} {ids : List Nat} {t : TS} (h : TIs w B N seq ids t) : (keysA t.now.ch).length ≤ N ∧ (keysA t.now.od).length ≤ N ∧ (keysA t.now.fr).length ≤ N ∧ t.now.rv.length ≤ N := by
  obtain ⟨a, hv⟩ := h.tv
  obtain ⟨_, _, _, h1⟩ := hv.p.ch
  obtain ⟨_, _, _, h2⟩ := hv.p.od
  obtain ⟨_, _, _, h3⟩ := hv.p.fr
  exact ⟨by rw [keysA_length]; exact h1, by rw [keysA_length]; exact h2, by rw [keysA_length]; exact h3, hv.p.rv.le⟩
set_option maxRecDepth 100000 in
set_option maxHeartbeats 4000000 in
theorem same_ok {w0 : World} {A B M N seq : Nat} {ta tb : TS} {w : World} (h : Two w0 A B M N seq ta tb w) (he : ta.now = tb.now) (hM : M ≤ 100000) (hN : N ≤ 100000) : Calls Try.prog 27 #[.pointer (some ⟨A, 0, none⟩), .pointer (some ⟨B, 0, none⟩)] w fun e w' => e = .returned (.bool true) ∧ Two w0 A B M N seq ta tb w' := by
  have HL := Lib.hid (show (keysA ta.now.ch).length ≤ M ∧ (keysA ta.now.od).length ≤ M ∧ (keysA ta.now.fr).length ≤ M ∧ ta.now.rv.length ≤ M by
    obtain ⟨ia, ib, h1, _⟩ := h.ex
    exact h1.small)
  have HT0 := Lib.hid h
  have HE := Lib.hid he
  obtain ⟨vo, hvo⟩ : ∃ vo, ta.now.void = vo := ⟨_, rfl⟩
  have HV := Lib.hid hvo
  have HV2 := Lib.hid (show tb.now.void = vo by rw [← he]; exact hvo)
  have d0 : (vo == vo) = true := by simp
  clear h he hvo
  go_enter Try.func27, Try.ntmps27
  go_wp2_with fail
  refine (HT0.out.left.void).mono ?_
  rintro e w' ⟨rfl, rfl⟩
  rw [HV.out]
  go_wp2_with fail
  refine (HT0.out.right.void).mono ?_
  rintro e w' ⟨rfl, rfl⟩
  rw [HV2.out]
  go_wp2_with fail
  refine (HT0.out.left.ordered hM).mono ?_
  rintro e wa0 ⟨va0, rfl, hr, hg, _⟩
  have HRa0 := Lib.hid hr
  have HTa0 := Lib.hid (HT0.out.later hg)
  clear hr hg
  go_wp2_with fail
  refine (HTa0.out.right.ordered hN).mono ?_
  rintro e wb0 ⟨vb0, rfl, hr, hg, _⟩
  rw [← HE.out] at hr
  have HRb0 := Lib.hid hr
  have HRc0 := Lib.hid (HRa0.out.grow hg)
  have HTb0 := Lib.hid (HTa0.out.later hg)
  clear hr hg
  go_wp2_with fail
  refine (Rev.same_ints HRc0.out HRb0.out (by have := HL.out; (try simp only [sortI_length]); omega)).mono ?_
  rintro e ws0 ⟨rfl, hg⟩
  have HT1 := Lib.hid (HTb0.out.later hg)
  clear hg
  go_wp2_with fail
  refine (HT1.out.left.freed hM).mono ?_
  rintro e wa1 ⟨va1, rfl, hr, hg, _⟩
  have HRa1 := Lib.hid hr
  have HTa1 := Lib.hid (HT1.out.later hg)
  clear hr hg
  go_wp2_with fail
  refine (HTa1.out.right.freed hN).mono ?_
  rintro e wb1 ⟨vb1, rfl, hr, hg, _⟩
  rw [← HE.out] at hr
  have HRb1 := Lib.hid hr
  have HRc1 := Lib.hid (HRa1.out.grow hg)
  have HTb1 := Lib.hid (HTa1.out.later hg)
  clear hr hg
  go_wp2_with fail
  refine (Rev.same_ints HRc1.out HRb1.out (by have := HL.out; (try simp only [sortI_length]); omega)).mono ?_
  rintro e ws1 ⟨rfl, hg⟩
  have HT2 := Lib.hid (HTb1.out.later hg)
  clear hg
  go_wp2_with fail
  refine (HT2.out.left.revoked hM).mono ?_
  rintro e wa2 ⟨va2, rfl, hr, hg, _⟩
  have HRa2 := Lib.hid hr
  have HTa2 := Lib.hid (HT2.out.later hg)
  clear hr hg
  go_wp2_with fail
  refine (HTa2.out.right.revoked hN).mono ?_
  rintro e wb2 ⟨vb2, rfl, hr, hg, _⟩
  rw [← HE.out] at hr
  have HRb2 := Lib.hid hr
  have HRc2 := Lib.hid (HRa2.out.grow hg)
  have HTb2 := Lib.hid (HTa2.out.later hg)
  clear hr hg
  go_wp2_with fail
  refine (Rev.same_ints HRc2.out HRb2.out (by have := HL.out; (try simp only [sortI_length]); omega)).mono ?_
  rintro e ws2 ⟨rfl, hg⟩
  have HT3 := Lib.hid (HTb2.out.later hg)
  clear hg
  go_wp2_with fail
  refine (HT3.out.left.changed hM).mono ?_
  rintro e wa3 ⟨va3, rfl, hr, hg, _⟩
  have HRa3 := Lib.hid hr
  have HTa3 := Lib.hid (HT3.out.later hg)
  clear hr hg
  go_wp2_with fail
  refine (HTa3.out.right.changed hN).mono ?_
  rintro e wb3 ⟨vb3, rfl, hr, hg, _⟩
  rw [← HE.out] at hr
  have HRb3 := Lib.hid hr
  have HRc3 := Lib.hid (HRa3.out.grow hg)
  have HTb3 := Lib.hid (HTa3.out.later hg)
  clear hr hg
  go_wp2_with fail
  refine (Rev.same_ints HRc3.out HRb3.out (by have := HL.out; (try simp only [sortI_length]); omega)).mono ?_
  rintro e ws3 ⟨rfl, hg⟩
  have HT4 := Lib.hid (HTb3.out.later hg)
  clear hg
  go_wp2_with fail
  refine (HT4.out.left.trans hM).mono ?_
  rintro e wp ⟨vc, vr, rfl, hc, hr, hg, _⟩
  have HTr := Lib.hid (show TrIs wp (.agg #[.int .u32 (seq : Int), vc, vr]) seq ta.now.copies ta.now.rv from ⟨⟨vc, vr, rfl, hc, hr⟩⟩)
  have HT5 := Lib.hid (HT4.out.later hg)
  clear hc hr hg
  go_wp2_with fail
  refine (HT5.out.right.trans hN).mono ?_
  rintro e wq ⟨vc', vr', rfl, hc, hr, hg, _⟩
  rw [← HE.out] at hc hr
  have HTq := Lib.hid (show TrIs wq (.agg #[.int .u32 (seq : Int), vc', vr']) seq ta.now.copies ta.now.rv from ⟨⟨vc', vr', rfl, hc, hr⟩⟩)
  have HTs := Lib.hid (HTr.out.grow hg)
  have HT6 := Lib.hid (HT5.out.later hg)
  clear hc hr hg
  go_wp2_with fail
  refine (sametrans_ok HTs.out HTq.out (by have := HL.out; unfold PS.copies; rw [List.length_map, sortI_length]; omega) (by have := HL.out; omega)).mono ?_
  rintro e wz ⟨rfl, hg⟩
  have HT7 := Lib.hid (HT6.out.later hg)
  clear hg
  go_wp2_with fail
  go_ret
  exact ⟨rfl, HT7.out⟩
#print axioms same_ok
end Go.Proofs.Ytnogajnoghjmhaa
