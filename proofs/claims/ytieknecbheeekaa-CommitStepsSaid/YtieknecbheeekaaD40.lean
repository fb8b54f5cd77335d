/- The document's disk: Load, Image, Flush: the walks. -/
import Derived.Test.YtieknecbheeekaaD39
set_option linter.unusedVariables false
set_option linter.unusedSimpArgs false
namespace Go.Proofs.Ytieknecbheeekaa
open Go.RowKit

/-- the document's disk of an image has come -/
def RLoadPost (l : List Blk) (w : World) (e : Ending) (w' : World) : Prop := ∃ R T, e = .returned (.tuple #[.pointer (some ⟨R, 0, none⟩), .int .i64 0]) ∧ IsRef w' R T (loadD l) ∧ Grow w w' ∧ ∀ k ∈ T, w.heap.size ≤ k
theorem rload_disk {w1 : World} {l : List Blk} (h1 : 1 ≤ l.length) (h2 : l.length ≤ 2048) {g c : Nat} (hr : Row w1 44 256 (.slice (some ⟨g, 0, none⟩) l.length c) (l.map bc)) :
    IsRef (w1.alloc (.cells #[.slice (some ⟨g, 0, none⟩) l.length c, .slice none 0 0, .int .i64 0, .int .i64 (-1)] 63)) w1.heap.size [w1.heap.size, g] (loadD l) := by
  have hs1 : g < w1.heap.size := hr.lt rfl
  refine ⟨g, c, .slice none 0 0, ?_⟩
  constructor
  · exact heap_alloc_last _ _
  · exact hr.kept (Touch.alloc [] _ _) (by simp)
  · exact ⟨fun c hc => (by cases hc), World.ownsRow_nil _ _ _ _⟩
  · exact h1
  · exact h2
  · simp
  · simp
  · intro k hk; cases hk
  · omega
  · intro k hk; cases hk
  · intro k hk; simp at hk; simp; omega
set_option maxHeartbeats 2000000 in
theorem rload_ok {w : World} {v : Value} {l : List Blk} (h : Row w 44 256 v (l.map bc)) (h1 : 1 ≤ l.length) (h2 : l.length ≤ 2048) : Calls Try.prog 22 #[v] w (RLoadPost l w) := by
  obtain ⟨g, cap, rfl, hg, _⟩ := h.open_ (by simp; omega)
  have hlen : (l.map bc).length = l.length := by simp
  rw [hlen] at h ⊢
  have HR := Lib.hid (h.kept (Touch.alloc [] w (.cells #[] 44)) (by simp))
  have hmk := mk_empty
  obtain ⟨i0, hi, hz0, hz1, hz2⟩ := info_parts info32b
  have HI := Lib.hid hi
  have HZ0 := Lib.hid hz0
  have HZ1 := Lib.hid hz1
  have HZ2 := Lib.hid hz2
  have H1 := Lib.hid h1
  have H2 := Lib.hid h2
  obtain ⟨n, hn⟩ : ∃ n, n = l.length := ⟨_, rfl⟩
  rw [← hn] at HR h1 h2 ⊢
  have HN := Lib.hid hn
  have HF := Lib.hid (flatten_length 256 _ h.1)
  have e0 : ((n : Int) == 0) = false := by simp; omega
  have e1 : decide ((2048 : Int) < (n : Int)) = false := by simp; omega
  clear h hlen hi hz0 hz1 hz2 hn
  go_enter Try.func22, Try.ntmps22
  go_wp2_with (at_builtin; refine wpList_append_own_at _ rfl _ _ 59 rfl 0 44 i0 _ 256 256 Try.underlying59 HI.out HZ0.out HZ1.out HZ2.out (by show (bc zeroB).toArray.size = 256; exact zero_size) (by omega) (.slice (some ⟨w.heap.size, 0, none⟩) 0 0) 0 [] rfl (World.ownsRow_made w #[] 0 (Nat.zero_le _) (by unfold maxLen; omega) rfl) ⟨g, 0, none⟩ n cap ((l.map bc).flatten) rfl ?c1 ?c2 (flat_one l) ?c3 ?c4 (Nat.zero_le _) ?_)
  case c1 => rw [HF.out, List.length_map, HN.out]
  case c2 =>
    intro j u hj
    rw [Addr.add_mid, Nat.zero_add]
    have hjl : j < n * 256 := by
      have h1 := (List.getElem?_eq_some_iff.1 hj).1
      rw [HF.out, List.length_map, ← HN.out] at h1
      exact h1
    have h2 := HR.out.2
    rw [List.length_map, ← HN.out] at h2
    rw [h2.cellAt j hjl]
    exact hj
  case c3 => unfold maxLen; omega
  case c4 => omega
  intro v' w' hown hgr hnil hat
  have hrow : Row w' 44 256 v' (l.map bc) := ⟨HR.out.1, by rw [List.length_map, ← HN.out]; exact hown⟩
  obtain ⟨g', cap', rfl, _⟩ := hrow.open_ (by rw [List.length_map, ← HN.out]; omega)
  rw [List.length_map, ← HN.out] at hrow ⊢
  have HD := Lib.hid (rload_disk H1.out H2.out (by rw [← HN.out]; exact hrow))
  have HGR := Lib.hid (show Grow w w' from ((Below.refl w.heap.size w).alloc (Nat.le_refl _) _).grown hgr (by simp) (fun k e => by cases e; exact Nat.le_refl _))
  have HAT := Lib.hid (show w.heap.size ≤ g' by
    rcases hat with h | h
    · have e : g' = w.heap.size := Option.some.inj h; omega
    · have e : g' = w.heap.size + 1 := Option.some.inj h; omega)
  clear hown hgr hnil hat hrow
  go_wp2_with fail
  go_ret2
  refine ⟨_, _, rfl, by have := HD.out; rw [← HN.out] at this; exact this, HGR.out.trans (Grow.alloc _ _), ?_⟩
  intro k hk
  have := HGR.out.size
  have := HAT.out
  simp at hk
  omega
#print axioms rload_ok
theorem rload_no {w : World} {p : Option Addr} {n cap : Nat} (hn : n = 0 ∨ 2048 < n) (hm : n ≤ 9223372036854775807) : Calls Try.prog 22 #[.slice p n cap] w fun e w' => e = .returned (.tuple #[.pointer none, .int .i64 2]) ∧ w = w' := by
  rcases hn with rfl | h
  · go_enter Try.func22, Try.ntmps22
    go_wp2_with fail
    go_ret2
    exact ⟨rfl, rfl⟩
  · have e0 : ((n : Int) == 0) = false := by simp; omega
    have e1 : decide ((2048 : Int) < (n : Int)) = true := by simp; omega
    go_enter Try.func22, Try.ntmps22
    go_wp2_with fail
    go_ret2
    exact ⟨rfl, rfl⟩
#print axioms rload_no
end Go.Proofs.Ytieknecbheeekaa
