/- Disk.Write: the walk. -/
import Derived.Test.YtieknecbheeekaaD7
import Derived.Deep.Cut
set_option linter.unusedVariables false
set_option linter.unusedSimpArgs false
namespace Go.Proofs.Ytieknecbheeekaa
open Go.RowKit

theorem Parts.appended {W1 wz : World} {B : Nat} {S : List Nat} {d : DS} {gs cs gl cl : Nat} {vw : Value} (h : Parts W1 B S d gs cs gl cl vw) (ht : Touch (B :: vw.ownBlock.toList) W1 wz) (b : Nat) (x : Blk)
    (hd : DoneAt W1 B (.slice (some ⟨gs, 0, none⟩) d.safe.length cs) (.slice (some ⟨gl, 0, none⟩) d.safe.length cl) d vw (d.ws.map wc ++ [wc (b, x)]) undef wz) :
    ∃ v S2, Parts wz B S2 { d with ws := d.ws ++ [(b, x)] } gs cs gl cl v ∧ ∀ k ∈ S2, k ∈ S ∨ W1.heap.size ≤ k := by
  obtain ⟨v, hob, hrow, hown⟩ := hd
  have hgs := h.lt gs h.inS
  have hgl := h.lt gl h.inL
  have hB := h.lt B h.inB
  have hown' : ∀ g, v.ownBlock = some g → (g ∈ S ∨ W1.heap.size ≤ g) ∧ g ≠ B ∧ g ≠ gs ∧ g ≠ gl := by
    intro g hg
    rcases hown with h1 | ⟨g', h1, h2⟩
    · rw [h1] at hg
      exact ⟨.inl (h.inW g hg), h.bw g hg⟩
    · rw [hg] at h1
      cases h1
      exact ⟨.inr h2, by omega, by omega, by omega⟩
  have hnS : gs ∉ B :: vw.ownBlock.toList := by
    intro hm
    rcases List.mem_cons.1 hm with e | e
    · exact h.bs e.symm
    · exact (h.bw gs (by simpa using e)).2.1 rfl
  have hnL : gl ∉ B :: vw.ownBlock.toList := by
    intro hm
    rcases List.mem_cons.1 hm with e | e
    · exact h.bl e.symm
    · exact (h.bw gl (by simpa using e)).2.2 rfl
  refine ⟨v, v.ownBlock.toList ++ S, ?_, ?_⟩
  · exact
    { obj := hob
      safe := h.safe.kept ht (fun g e => by cases e; exact hnS)
      last := h.last.kept ht (fun g e => by cases e; exact hnL)
      waits := by simpa using hrow
      len := h.len
      one := h.one
      most := h.most
      inB := List.mem_append_right _ h.inB
      inS := List.mem_append_right _ h.inS
      inL := List.mem_append_right _ h.inL
      inW := fun g hg => List.mem_append_left _ (by simp [hg])
      bs := h.bs
      bl := h.bl
      sl := h.sl
      bw := fun g hg => (hown' g hg).2
      lt := fun k hk => by
        rcases List.mem_append.1 hk with h1 | h1
        · exact hrow.lt (by simpa using h1)
        · exact Nat.lt_of_lt_of_le (h.lt k h1) ht.size }
  · intro k hk
    rcases List.mem_append.1 hk with h1 | h1
    · exact (hown' k (by simpa using h1)).1
    · exact .inl h1
theorem Parts.stored {w wz : World} {B : Nat} {S : List Nat} {d : DS} {gs cs gl cl : Nat} {vw : Value} (h : Parts w B S d gs cs gl cl vw) (ht : Touch [gl] w wz) (l : List Blk) (hl : l.length = d.last.length)
    (hr : Row wz 44 256 (.slice (some ⟨gl, 0, none⟩) d.safe.length cl) (l.map bc)) : Parts wz B S { d with last := l } gs cs gl cl vw :=
  { h with
    obj := (ht.block B (h.lt B h.inB) (by simpa using h.bl)).trans h.obj
    safe := h.safe.kept ht (fun g e => by cases e; simpa using h.sl)
    last := hr
    waits := h.waits.kept ht (fun g e => by simpa using (h.bw g e).2.2)
    len := hl.trans h.len
    lt := fun k hk => Nat.lt_of_lt_of_le (h.lt k hk) ht.size }
def DS.wrote (d : DS) (b : Nat) (x : Blk) : DS := DS.acted { d with last := d.last.set b x, ws := d.ws ++ [(b, x)] }
/-- a write was done -/
def WrotePost (B : Nat) (S : List Nat) (d : DS) (b : Nat) (x : Blk) (w : World) (e : Ending) (w' : World) : Prop :=
  e = .returned (.int .i64 0) ∧ ∃ S', IsDisk w' B S' (d.wrote b x) ∧ Touch S w w' ∧ ∀ k ∈ S', k ∈ S ∨ w.heap.size ≤ k
set_option maxRecDepth 100000 in
set_option maxHeartbeats 2000000 in
theorem write_ok {w : World} {B : Nat} {S : List Nat} {d : DS} (h : IsDisk w B S d) (b : Nat) (hb : b < d.safe.length) (x : Blk) (hx : x.length = 256) (hd : d.dead = false) (hw : d.ws.length ≤ 100000) (ha : 0 ≤ d.acts ∧ d.acts ≤ 1000000) (hl : 0 ≤ d.left ∧ d.left ≤ 9223372036854775807) :
    Calls Try.prog 41 #[.pointer (some ⟨B, 0, none⟩), .int .i64 (b : Int), .agg (bc x).toArray] w (WrotePost B S d b x w) := by
  obtain ⟨gs, cs, gl, cl, vw, h⟩ := h
  have ht1 : Touch [] w (w.alloc (.cells (bc x).toArray 44)) := Touch.alloc _ _ _
  have h1 := h.kept ht1 (by simp)
  have HD := Lib.hid (show IsDisk (w.alloc (.cells (bc x).toArray 44)) B S d from ⟨gs, cs, gl, cl, vw, h1⟩)
  have HP := Lib.hid h1
  have HT1 := Lib.hid ht1
  have HWY := Lib.hid (show d.why b = 0 by unfold DS.why; rw [hd, if_neg (by simp), if_pos ⟨by omega, by omega⟩])
  have HX := Lib.hid (heap_alloc_last w (.cells (bc x).toArray 44))
  have HSA := Lib.hid (show ∀ k ∈ S, k < w.heap.size from h.lt)
  have HXl := Lib.hid hx
  have HA := Lib.hid ha
  have HL := Lib.hid hl
  have HW := Lib.hid hw
  have HBn := Lib.hid (show b < d.last.length by rw [h.len]; exact hb)
  have HS1 := Lib.hid (show w.heap.size < (w.alloc (.cells (bc x).toArray 44)).heap.size by simp)
  clear h h1 ht1 hd hx ha hl hw hb
  go_enter Try.func41, Try.ntmps41
  go_wp2_with fail
  refine (refuseAt_any HD.out b).mono ?_
  rintro e w' ⟨rfl, rfl⟩
  rw [HWY.out]
  go_upto_region 4 with (fail)
  have h1 := HP.out
  refine write_reg4 B w.heap.size b x (B :: vw.ownBlock.toList) d _ _ vw _ HX HS1 (Lib.hid ?hxs) HXl (Lib.hid h1.obj) (Lib.hid h1.waits) (Lib.hid ?hlt) (Lib.hid (by simp)) (Lib.hid (by intro k hk; simp [hk])) (Lib.hid (fun g hg => (h1.bw g hg).1)) (Lib.hid (by have := HW.out; omega)) _ _ _ _ _ _ _ _ _ _ _ _ _ _ _ _ _ _ _ _ _ _ _ _ _ _ _ _ _ _ _ _ _ (Lib.hid ?hk4)
  case hxs =>
    intro hm
    have : w.heap.size ∈ S := by
      rcases List.mem_cons.1 hm with e | e
      · rw [e]; exact h1.inB
      · exact h1.inW _ (by simpa using e)
    have := HSA.out _ this
    omega
  case hlt =>
    intro k hm
    rcases List.mem_cons.1 hm with e | e
    · rw [e]; exact h1.lt B h1.inB
    · exact h1.lt k (h1.inW k (by simpa using e))
  case hk4 =>
    intro v14 v15 v16 v17 v18 v19 v20 v21 v22 v23 v24 v25 wz ht4 hdone
    obtain ⟨v, S2, h2, hS2⟩ := HP.out.appended ht4 b x hdone
    have hxn : w.heap.size ∉ B :: vw.ownBlock.toList := by
      intro hm
      have : w.heap.size ∈ S := by
        rcases List.mem_cons.1 hm with e | e
        · rw [e]; exact h1.inB
        · exact h1.inW _ (by simpa using e)
      have := HSA.out _ this
      omega
    have HX4 := Lib.hid ((ht4.block w.heap.size HS1.out hxn).trans HX.out)
    have HL4 := Lib.hid (show w.heap.size < wz.heap.size from Nat.lt_of_lt_of_le HS1.out ht4.size)
    have HG4 := Lib.hid (show w.heap.size ∉ [gl] by
      intro hm
      have := HSA.out _ h1.inL
      have := List.mem_singleton.1 hm
      omega)
    have HT4 := Lib.hid ht4
    have HP2 := Lib.hid h2
    have HS2 := Lib.hid hS2
    clear h1 ht4 hdone h2 hS2 hxn
    go_upto_region 5 with (fail)
    have h2 := HP2.out
    refine write_reg5 B w.heap.size b gl d.safe.length cl x d.last wz HX4 HL4 HG4 HXl (Lib.hid h2.cells.2.1) (Lib.hid (h2.lt B h2.inB)) (Lib.hid (by simpa using h2.bl)) (Lib.hid h2.last) HBn.out h2.len _ _ _ _ _ _ _ _ _ _ _ _ _ _ _ _ _ _ _ _ _ _ _ _ _ _ _ _ _ _ _ _ _ (Lib.hid ?hk5)
    clear h2
    intro y26 y27 y28 y29 y30 y31 y32 wy ht5 hrow5
    have h5 := HP2.out.stored ht5 (d.last.set b x) (by simp) hrow5
    have HP5 := Lib.hid h5
    have HT5 := Lib.hid ht5
    clear h5 ht5 hrow5
    go_wp2_with fail
    refine (act_any HP5.out HA.out HL.out).mono ?_
    rintro e w6 ⟨⟨ve, rfl⟩, h6, ht6⟩
    have HP6 := Lib.hid h6
    have HT6 := Lib.hid ht6
    clear h6 ht6
    go_wp2_with fail
    go_ret
    have hp := HP.out
    refine ⟨rfl, S2, ⟨gs, cs, gl, cl, v, HP6.out⟩, ?_, ?_⟩
    · refine (((HT1.out.mono (S' := S) (by simp)).trans HT4.out ?_).trans HT5.out ?_).trans HT6.out ?_
      · intro k hm
        rcases List.mem_cons.1 hm with e | e
        · rw [e]; exact .inl hp.inB
        · exact .inl (hp.inW k (by simpa using e))
      · intro k hm; rw [List.mem_singleton.1 hm]; exact .inl hp.inL
      · intro k hm; rw [List.mem_singleton.1 hm]; exact .inl hp.inB
    · intro k hk
      rcases HS2.out k hk with h | h
      · exact .inl h
      · exact .inr (Nat.le_trans (Nat.le_of_lt HS1.out) h)
#print axioms write_ok
end Go.Proofs.Ytieknecbheeekaa
