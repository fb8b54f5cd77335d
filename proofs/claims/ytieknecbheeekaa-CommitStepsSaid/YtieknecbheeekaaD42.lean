/- The document's disk: Flush, Write: the walks. -/
import Derived.Test.YtieknecbheeekaaD41
set_option linter.unusedVariables false
set_option linter.unusedSimpArgs false
namespace Go.Proofs.Ytieknecbheeekaa
open Go.RowKit

/-- the document's disk behind a call -/
def RPost (R : Nat) (T : List Nat) (d' : DS) (v : Value) (w : World) (e : Ending) (w' : World) : Prop :=
  e = .returned v ∧ ∃ T', IsRef w' R T' d' ∧ Touch T w w' ∧ ∀ k ∈ T', k ∈ T ∨ w.heap.size ≤ k
theorem rflush_dead {w : World} {R : Nat} {T : List Nat} {d : DS} (h : IsRef w R T d) (hd : d.dead = true) : Calls Try.prog 34 #[.pointer (some ⟨R, 0, none⟩)] w fun e w' => e = .returned (.int .i64 30) ∧ w = w' := by
  have HD := Lib.hid h
  have HX := Lib.hid hd
  clear h hd
  go_enter Try.func34, Try.ntmps34
  go_wp2_with fail
  refine (rdead_ok HD.out).mono ?_
  rintro e w' ⟨rfl, rfl⟩
  rw [HX.out]
  go_wp2_with fail
  go_ret
  exact ⟨rfl, rfl⟩
theorem rl_range (d : DS) (hl : 0 ≤ d.left ∧ d.left ≤ 9223372036854775807) : -1 ≤ d.rl ∧ d.rl ≤ 9223372036854775807 := by
  unfold DS.rl; split <;> omega
set_option maxHeartbeats 2000000 in
theorem rflush_ok {w : World} {R : Nat} {T : List Nat} {d : DS} (h : IsRef w R T d) (hd : d.dead = false) (hws : ∀ p ∈ d.ws, p.1 < d.safe.length) (hm : d.ws.length ≤ 1000000) (ha : 0 ≤ d.acts ∧ d.acts ≤ 1000000) (hl : 0 ≤ d.left ∧ d.left ≤ 9223372036854775807) :
    Calls Try.prog 34 #[.pointer (some ⟨R, 0, none⟩)] w (RPost R T d.flushed (.int .i64 0) w) := by
  have HD := Lib.hid h
  have HX := Lib.hid hd
  have HA := Lib.hid ha
  have HL := Lib.hid (rl_range d hl)
  have HAC := Lib.hid (DS.rl_acted { d with safe := applyW d.safe d.ws, ws := [] } hd hl.1)
  obtain ⟨g, c, vw, h⟩ := h
  have HP := Lib.hid h
  have HIM := Lib.hid (rimage_ok h hws hm)
  obtain ⟨ad, cw, hvw⟩ := h.waits.len
  have HVW := Lib.hid hvw
  clear h hd ha hl hws hvw
  go_enter Try.func34, Try.ntmps34
  go_wp2_with fail
  refine (rdead_ok HD.out).mono ?_
  rintro e w' ⟨rfl, rfl⟩
  rw [HX.out]
  go_wp2_with fail
  refine (HIM.out).mono ?_
  intro e w1 hpost
  obtain ⟨g', cap', he, hr, hg', hgr⟩ := hpost
  rw [applyW_length] at he hr
  subst he
  have h1 := HP.out.kept (Touch.of_below (S := []) hgr) (by simp)
  have hgT : g' ∉ T := fun hm => by have := HP.out.lt g' hm; omega
  have h2 := h1.setL (applyW_length _ _) hr hgT (hr.lt rfl)
  have h3 := h2.noW
  have H3 := Lib.hid h3
  have c0 := h1.cells.1
  have f0 := h1.free 0
  have c1 := h2.cells.2.1
  have f1 := h2.free 1
  rw [HVW.out] at c1
  have HGR := Lib.hid hgr
  have HG' := Lib.hid hg'
  obtain ⟨n, hn⟩ : ∃ n, d.safe.length = n := ⟨_, rfl⟩
  rw [hn] at c0 c1 f1 H3 ⊢
  clear h1 h2 h3 hgT hr hgr hg' hn
  go_wp2_with fail
  refine (ract_ok H3.out HA.out HL.out).mono ?_
  intro e w6 hpost
  obtain ⟨⟨ve, he⟩, h6, ht6⟩ := hpost
  subst he
  have H6 := Lib.hid h6
  have HT6 := Lib.hid ht6
  clear h6 ht6 c0 f0 c1 f1
  go_wp2_with fail
  go_ret
  refine ⟨rfl, g' :: T, ⟨g', cap', .slice none 0 0, ?_⟩, ?_, ?_⟩
  · have := H6.out
    show RDk w6 R (g' :: T) (applyW d.safe d.ws) [] (d.acts + 1) (DS.rl (DS.acted { d with safe := applyW d.safe d.ws, ws := [] })) g' cap' (.slice none 0 0)
    rw [HAC.out]
    exact this
  · have hR := HP.out.inR
    refine ((((Touch.of_below (S := T) HGR.out).trans (Touch.setCell (S := [R]) _ (by simp) _) ?_).trans (Touch.setCell (S := [R]) _ (by simp) _) ?_).trans HT6.out ?_)
    all_goals intro k hk; rw [List.mem_singleton.1 hk]; exact .inl hR
  · intro k hk
    rcases List.mem_cons.1 hk with rfl | hk
    · exact .inr HG'.out
    · exact .inl hk
#print axioms rflush_ok
theorem RDk.appended {W1 wz : World} {R : Nat} {T : List Nat} {l : List Blk} {ws : List (Nat × Blk)} {a f : Int} {g c : Nat} {vw : Value} (h : RDk W1 R T l ws a f g c vw) (ht : Touch (R :: vw.ownBlock.toList) W1 wz) (b : Nat) (x : Blk)
    (hd : DoneAtR W1 R (.slice (some ⟨g, 0, none⟩) l.length c) a f vw (ws.map wc ++ [wc (b, x)]) undef wz) :
    ∃ v T2, RDk wz R T2 l (ws ++ [(b, x)]) a f g c v ∧ ∀ k ∈ T2, k ∈ T ∨ W1.heap.size ≤ k := by
  obtain ⟨v, hob, hrow, hown⟩ := hd
  have hgs := h.lt g h.inG
  have hB := h.lt R h.inR
  have hown' : ∀ k, v.ownBlock = some k → (k ∈ T ∨ W1.heap.size ≤ k) ∧ k ≠ R ∧ k ≠ g := by
    intro k hk
    rcases hown with h1 | ⟨g', h1, h2⟩
    · rw [h1] at hk
      exact ⟨.inl (h.inW k hk), h.bw k hk⟩
    · rw [hk] at h1
      cases h1
      exact ⟨.inr h2, by omega, by omega⟩
  have hnS : g ∉ R :: vw.ownBlock.toList := by
    intro hm
    rcases List.mem_cons.1 hm with e | e
    · exact h.rg e.symm
    · exact (h.bw g (by simpa using e)).2 rfl
  refine ⟨v, v.ownBlock.toList ++ T, ?_, ?_⟩
  · exact
    { obj := hob
      row := h.row.kept ht (fun g e => by cases e; exact hnS)
      waits := by simpa using hrow
      one := h.one
      most := h.most
      inR := List.mem_append_right _ h.inR
      inG := List.mem_append_right _ h.inG
      inW := fun g hg => List.mem_append_left _ (by simp [hg])
      rg := h.rg
      bw := fun g hg => (hown' g hg).2
      lt := fun k hk => by
        rcases List.mem_append.1 hk with h1 | h1
        · exact hrow.lt (by simpa using h1)
        · exact Nat.lt_of_lt_of_le (h.lt k h1) ht.size }
  · intro k hk
    rcases List.mem_append.1 hk with h1 | h1
    · exact (hown' k (by simpa using h1)).1
    · exact .inl h1
set_option maxRecDepth 100000 in
set_option maxHeartbeats 2000000 in
theorem rwrite_ok {w : World} {R : Nat} {T : List Nat} {d : DS} (h : IsRef w R T d) (b : Nat) (hb : b < d.safe.length) (x : Blk) (hx : x.length = 256) (hd : d.dead = false) (hw : d.ws.length ≤ 100000) (ha : 0 ≤ d.acts ∧ d.acts ≤ 1000000) (hl : 0 ≤ d.left ∧ d.left ≤ 9223372036854775807) :
    Calls Try.prog 33 #[.pointer (some ⟨R, 0, none⟩), .int .i64 (b : Int), .agg (bc x).toArray] w (RPost R T (d.wrote b x) (.int .i64 0) w) := by
  have HL := Lib.hid (rl_range d hl)
  have HAC := Lib.hid (DS.rl_acted { d with last := d.last.set b x, ws := d.ws ++ [(b, x)] } hd hl.1)
  obtain ⟨g, c, vw, h⟩ := h
  have ht1 : Touch [] w (w.alloc (.cells (bc x).toArray 44)) := Touch.alloc _ _ _
  have h1 := h.kept ht1 (by simp)
  have HD := Lib.hid (show IsRef (w.alloc (.cells (bc x).toArray 44)) R T d from ⟨g, c, vw, h1⟩)
  have HP := Lib.hid h1
  have HT1 := Lib.hid ht1
  have HX := Lib.hid (heap_alloc_last w (.cells (bc x).toArray 44))
  have HSA := Lib.hid (show ∀ k ∈ T, k < w.heap.size from h.lt)
  have HXl := Lib.hid hx
  have HA := Lib.hid ha
  have HW := Lib.hid hw
  have HDD := Lib.hid hd
  have HS1 := Lib.hid (show w.heap.size < (w.alloc (.cells (bc x).toArray 44)).heap.size by simp)
  have c0 := h1.cells.1
  obtain ⟨n, hn⟩ : ∃ n, d.safe.length = n := ⟨_, rfl⟩
  rw [hn] at c0 hb
  have HN := Lib.hid hn
  have e0 : decide ((b : Int) < 0) = false := by simp
  have e1 : decide ((n : Int) ≤ (b : Int)) = false := by simp; omega
  clear h h1 ht1 hd hx ha hl hw hn
  go_enter Try.func33, Try.ntmps33
  go_wp2_with fail
  refine (rdead_ok HD.out).mono ?_
  rintro e w' ⟨rfl, rfl⟩
  rw [HDD.out]
  go_upto_region 5 with (fail)
  have h1 := HP.out
  refine rwrite_reg R w.heap.size b x (R :: vw.ownBlock.toList) d.ws d.acts d.rl (.slice (some ⟨g, 0, none⟩) d.safe.length c) vw _ HX HS1 (Lib.hid ?hxs) HXl (Lib.hid h1.obj) (Lib.hid h1.waits) (Lib.hid ?hlt) (Lib.hid (by simp)) (Lib.hid (by intro k hk; simp [hk])) (Lib.hid (fun g hg => (h1.bw g hg).1)) (Lib.hid (by have := HW.out; omega)) _ _ _ _ _ _ _ _ _ _ _ _ _ _ _ _ _ _ _ _ _ _ _ _ _ _ _ _ _ _ _ _ (Lib.hid ?hk4)
  case hxs =>
    intro hm
    have : w.heap.size ∈ T := by
      rcases List.mem_cons.1 hm with e | e
      · rw [e]; exact h1.inR
      · exact h1.inW _ (by simpa using e)
    have := HSA.out _ this
    omega
  case hlt =>
    intro k hm
    rcases List.mem_cons.1 hm with e | e
    · rw [e]; exact h1.lt R h1.inR
    · exact h1.lt k (h1.inW k (by simpa using e))
  case hk4 =>
    intro v20 v21 v22 v23 v24 v25 v26 v27 v28 v29 v30 v31 wz ht4 hdone
    obtain ⟨v, T2, h2, hT2⟩ := HP.out.appended ht4 b x hdone
    have HT4 := Lib.hid ht4
    have HP2 := Lib.hid h2
    have HS2 := Lib.hid hT2
    clear h1 ht4 hdone h2 hT2 c0
    go_wp2_with fail
    refine (ract_ok HP2.out HA.out HL.out).mono ?_
    intro e w6 hpost
    obtain ⟨⟨ve, he⟩, h6, ht6⟩ := hpost
    subst he
    have HP6 := Lib.hid h6
    have HT6 := Lib.hid ht6
    clear h6 ht6
    go_wp2_with fail
    go_ret
    have hp := HP.out
    refine ⟨rfl, T2, ⟨g, c, v, ?_⟩, ?_, ?_⟩
    · show RDk w6 R T2 d.safe (d.ws ++ [(b, x)]) (d.acts + 1) (DS.rl (DS.acted { d with last := d.last.set b x, ws := d.ws ++ [(b, x)] })) g c v
      rw [HAC.out]
      exact HP6.out
    · refine ((HT1.out.mono (S' := T) (by simp)).trans HT4.out ?_).trans HT6.out ?_
      · intro k hm
        rcases List.mem_cons.1 hm with e | e
        · rw [e]; exact .inl hp.inR
        · exact .inl (hp.inW k (by simpa using e))
      · intro k hm; rw [List.mem_singleton.1 hm]; exact .inl hp.inR
    · intro k hk
      rcases HS2.out k hk with h | h
      · exact .inl h
      · exact .inr (Nat.le_trans (Nat.le_of_lt HS1.out) h)
#print axioms rwrite_ok
theorem rwrite_no {w : World} {R : Nat} {T : List Nat} {d : DS} (h : IsRef w R T d) (b : Int) (x : Blk) (hy : d.why b ≠ 0) :
    Calls Try.prog 33 #[.pointer (some ⟨R, 0, none⟩), .int .i64 b, .agg (bc x).toArray] w fun e w' => e = .returned (.int .i64 (d.why b)) ∧ Grow w w' := by
  have h1 := h.kept (Touch.alloc [] w (.cells (bc x).toArray 44)) (by simp)
  have HD := Lib.hid h1
  have HG := Lib.hid (Grow.alloc w (.cells (bc x).toArray 44))
  obtain ⟨g, c, vw, h1⟩ := h1
  have c0 := h1.cells.1
  clear h h1
  cases hd : d.dead with
  | true =>
    have HY := Lib.hid (show d.why b = 30 by unfold DS.why; rw [hd, if_pos rfl])
    have HDD := Lib.hid hd
    clear hd
    go_enter Try.func33, Try.ntmps33
    go_wp2_with fail
    refine (rdead_ok HD.out).mono ?_
    rintro e w' ⟨rfl, rfl⟩
    rw [HDD.out]
    go_wp2_with fail
    go_ret
    exact ⟨by rw [HY.out]; rfl, HG.out⟩
  | false =>
    have hb : ¬(0 ≤ b ∧ b < d.safe.length) := fun hb => hy (by unfold DS.why; rw [hd, if_neg (by simp), if_pos hb])
    have HY := Lib.hid (show d.why b = 2 by unfold DS.why; rw [hd, if_neg (by simp), if_neg hb])
    have HDD := Lib.hid hd
    generalize d.safe.length = n at *
    clear hd
    by_cases h0 : b < 0
    · have e0 : decide (b < 0) = true := by simpa using h0
      go_enter Try.func33, Try.ntmps33
      go_wp2_with fail
      refine (rdead_ok HD.out).mono ?_
      rintro e w' ⟨rfl, rfl⟩
      rw [HDD.out]
      go_wp2_with fail
      go_ret
      exact ⟨by rw [HY.out]; rfl, HG.out⟩
    · have e0 : decide (b < 0) = false := by simpa using h0
      have e1 : decide ((n : Int) ≤ b) = true := by simp; omega
      go_enter Try.func33, Try.ntmps33
      go_wp2_with fail
      refine (rdead_ok HD.out).mono ?_
      rintro e w' ⟨rfl, rfl⟩
      rw [HDD.out]
      go_wp2_with fail
      go_ret
      exact ⟨by rw [HY.out]; rfl, HG.out⟩
#print axioms rwrite_no
end Go.Proofs.Ytieknecbheeekaa
