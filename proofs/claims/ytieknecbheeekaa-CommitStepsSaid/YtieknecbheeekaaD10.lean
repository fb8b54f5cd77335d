/- slices.Clone of blocks; Image and Safe; Load. -/
import Derived.Test.YtieknecbheeekaaD9
set_option linter.unusedVariables false
set_option linter.unusedSimpArgs false
namespace Go.Proofs.Ytieknecbheeekaa
open Go.RowKit

theorem mk_empty (w : World) : (Instr.buildSlice 59 0 #[]).run Try.prog w = .ok (.slice (some ⟨w.heap.size, 0, none⟩) 0 0) (w.alloc (.cells #[] 44)) := by kernel_rfl
/-- a new row with these blocks has come -/
def ClonePost (l : List Blk) (w : World) (e : Ending) (w' : World) : Prop :=
  ∃ g cap, e = .returned (.slice (some ⟨g, 0, none⟩) l.length cap) ∧ Row w' 44 256 (.slice (some ⟨g, 0, none⟩) l.length cap) (l.map bc) ∧ w.heap.size ≤ g ∧ Grow w w'
theorem flat_one (l : List Blk) : ∀ u ∈ (l.map bc).flatten, u.oneCell' = true := by
  intro u hu
  obtain ⟨c, hc, hu⟩ := List.mem_flatten.1 hu
  obtain ⟨x, _, rfl⟩ := List.mem_map.1 hc
  exact bc_one x u hu
set_option maxHeartbeats 2000000 in
theorem clone_ok {w : World} {v : Value} {l : List Blk} (h : Row w 44 256 v (l.map bc)) (hl : 1 ≤ l.length) (hl2 : l.length ≤ 4096) : Calls Try.prog 35 #[v] w (ClonePost l w) := by
  obtain ⟨g, cap, rfl, hg, _⟩ := h.open_ (by simp; omega)
  have hlen : (l.map bc).length = l.length := by simp
  rw [hlen] at h ⊢
  have HR := Lib.hid (h.kept (Touch.alloc [] w (.cells #[] 44)) (by simp))
  have hmk := mk_empty
  have hqn : ∀ (w : World) (n : Nat), (binOp .eql 59 (.slice (some ⟨g, 0, none⟩) n cap) (.slice none 0 0)).run Try.prog w = .ok (.bool false) w := fun w n => by kernel_rfl
  obtain ⟨i0, hi, hz0, hz1, hz2⟩ := info_parts info32b
  have HI := Lib.hid hi
  have HZ0 := Lib.hid hz0
  have HZ1 := Lib.hid hz1
  have HZ2 := Lib.hid hz2
  obtain ⟨n, hn⟩ : ∃ n, n = l.length := ⟨_, rfl⟩
  rw [← hn] at HR hl hl2 ⊢
  have HN := Lib.hid hn
  have HF := Lib.hid (flatten_length 256 _ h.1)
  clear h hlen hi hz0 hz1 hz2 hn
  go_enter Try.func35, Try.ntmps35
  go_wp2_with (at_builtin; refine wpList_append_own_at _ rfl _ _ 59 rfl 0 44 i0 _ 256 256 Try.underlying59 HI.out HZ0.out HZ1.out HZ2.out (by show (bc zeroB).toArray.size = 256; exact zero_size) (by omega) (.slice (some ⟨w.heap.size, 0, none⟩) 0 0) 0 [] rfl (World.ownsRow_made w #[] 0 (Nat.zero_le _) (by unfold maxLen; omega) rfl) ⟨g, 0, none⟩ n cap ((l.map bc).flatten) rfl ?c1 ?c2 (flat_one l) ?c3 ?c4 (Nat.zero_le _) ?_)
  case c1 => rw [HF.out, List.length_map, HN.out]
  case c2 =>
    intro j u hj
    rw [Addr.add_mid, Nat.zero_add]
    have hjl : j < n * 256 := by
      have h1 := (List.getElem?_eq_some_iff.1 hj).1
      rw [HF.out, List.length_map, ← HN.out] at h1
      exact h1
    have h2 := HR.out.2
    rw [List.length_map, ← HN.out] at h2
    rw [h2.cellAt j hjl]
    exact hj
  case c3 => unfold maxLen; omega
  case c4 => omega
  intro v' w' hown hgr hnil hat
  have hrow : Row w' 44 256 v' (l.map bc) := ⟨HR.out.1, by rw [List.length_map, ← HN.out]; exact hown⟩
  obtain ⟨g', cap', rfl, _⟩ := hrow.open_ (by rw [List.length_map, ← HN.out]; omega)
  rw [List.length_map, ← HN.out] at hrow ⊢
  have HRW := Lib.hid hrow
  have HGR := Lib.hid (show Grow w w' from ((Below.refl w.heap.size w).alloc (Nat.le_refl _) _).grown hgr (by simp) (fun k e => by cases e; exact Nat.le_refl _))
  have HAT := Lib.hid (show w.heap.size ≤ g' by
    rcases hat with h | h
    · have e : g' = w.heap.size := Option.some.inj h; omega
    · have e : g' = w.heap.size + 1 := Option.some.inj h; omega)
  clear hown hgr hnil hat hrow
  go_wp2_with fail
  go_ret
  exact ⟨g', cap', by rw [← HN.out]; rfl, by rw [← HN.out]; exact HRW.out, HAT.out, HGR.out⟩
#print axioms clone_ok

theorem image_ok {w : World} {B : Nat} {S : List Nat} {d : DS} (h : IsDisk w B S d) : Calls Try.prog 17 #[.pointer (some ⟨B, 0, none⟩)] w (ClonePost d.last w) := by
  have HD := Lib.hid h
  obtain ⟨gs, cs, gl, cl, vw, h⟩ := h
  obtain ⟨_, c1, _⟩ := h.cells
  have HR := Lib.hid h.last
  have H1 := Lib.hid (show 1 ≤ d.last.length by rw [h.len]; exact h.one)
  have H2 := Lib.hid (show d.last.length ≤ 4096 by rw [h.len]; have := h.most; omega)
  clear h
  go_enter Try.func17, Try.ntmps17
  go_wp2_with fail
  refine (made_yes HD.out).mono ?_
  rintro e w' ⟨rfl, rfl⟩
  go_wp2_with fail
  refine (clone_ok HR.out H1.out H2.out).mono ?_
  rintro e w' ⟨g, cap, rfl, h1, h2, h3⟩
  have HP := Lib.hid (⟨h1, h2, h3⟩ : _ ∧ _ ∧ _)
  clear h1 h2 h3
  go_wp2_with fail
  go_ret
  exact ⟨g, cap, rfl, HP.out⟩
theorem safe_ok {w : World} {B : Nat} {S : List Nat} {d : DS} (h : IsDisk w B S d) : Calls Try.prog 19 #[.pointer (some ⟨B, 0, none⟩)] w (ClonePost d.safe w) := by
  have HD := Lib.hid h
  obtain ⟨gs, cs, gl, cl, vw, h⟩ := h
  obtain ⟨c0, _⟩ := h.cells
  have HR := Lib.hid h.safe
  have H1 := Lib.hid h.one
  have H2 := Lib.hid (show d.safe.length ≤ 4096 by have := h.most; omega)
  clear h
  go_enter Try.func19, Try.ntmps19
  go_wp2_with fail
  refine (made_yes HD.out).mono ?_
  rintro e w' ⟨rfl, rfl⟩
  go_wp2_with fail
  refine (clone_ok HR.out H1.out H2.out).mono ?_
  rintro e w' ⟨g, cap, rfl, h1, h2, h3⟩
  have HP := Lib.hid (⟨h1, h2, h3⟩ : _ ∧ _ ∧ _)
  clear h1 h2 h3
  go_wp2_with fail
  go_ret
  exact ⟨g, cap, rfl, HP.out⟩
#print axioms image_ok
end Go.Proofs.Ytieknecbheeekaa
