/- cache: Evict, Sync; the laws' has, Same: the walks. -/
import Derived.Test.YtmfofobmceflmaaC7
set_option linter.unusedVariables false
set_option linter.unusedSimpArgs false
namespace Go.Proofs.Ytmfofobmceflmaa
open Go.RowKit Go.Maps

/-- a clean block was let go -/
def CS.ev (s : CS) (n : Int) : CS := if selL s.d.safe.length (isClean s.f s.p) = [] then s else { s with f := delF s.f (pickI (selL s.d.safe.length (isClean s.f s.p)) n) }
def EvPost (C B : Nat) (U : List Nat) (m : Nat) (s : CS) (n : Int) (w : World) (e : Ending) (w' : World) : Prop :=
  e = .returned (.tuple #[.int .i64 (if selL s.d.safe.length (isClean s.f s.p) = [] then 0 else pickI (selL s.d.safe.length (isClean s.f s.p)) n), .bool (!decide (selL s.d.safe.length (isClean s.f s.p) = []))]) ∧ Stands C B U m (s.ev n) w w'
theorem ev_nil {s : CS} {n : Int} (h : selL s.d.safe.length (isClean s.f s.p) = []) : s.ev n = s := if_pos h
theorem ev_cons {s : CS} {n : Int} (h : selL s.d.safe.length (isClean s.f s.p) ≠ []) : s.ev n = { s with f := delF s.f (pickI (selL s.d.safe.length (isClean s.f s.p)) n) } := if_neg h
set_option maxHeartbeats 2000000 in
theorem ev_ok {w : World} {C B : Nat} {U : List Nat} {n : Nat} {s : CS} (h : IsCache w C B U n s) (z : Int) (hz : z ≤ 9223372036854775807) :
    Calls Try.prog 22 #[.pointer (some ⟨C, 0, none⟩), .int .i64 z] w (EvPost C B U n s z w) := by
  have HC := Lib.hid h
  have hN := h.facts.2.1
  have HE0 := Lib.hid (fun hh => ev_nil (s := s) (n := z) hh)
  have HE1 := Lib.hid (fun hh => ev_cons (s := s) (n := z) hh)
  have HP : Hid (∀ e w', EvPost C B U n s z w e w' ↔ e = .returned (.tuple #[.int .i64 (if selL s.d.safe.length (isClean s.f s.p) = [] then 0 else pickI (selL s.d.safe.length (isClean s.f s.p)) z), .bool (!decide (selL s.d.safe.length (isClean s.f s.p) = []))]) ∧ Stands C B U n (s.ev z) w w') := Lib.hid (fun e w' => Iff.rfl)
  have HD := Lib.hid (clean_ok h)
  have HL := Lib.hid (selL_length s.d.safe.length (isClean s.f s.p))
  have HM := Lib.hid (fun i (hi : i ∈ selL s.d.safe.length (isClean s.f s.p)) => selL_mem.1 hi)
  generalize hNN : s.d.safe.length = N at *
  clear h
  obtain ⟨ds, hds⟩ : ∃ ds, ds = selL N (isClean s.f s.p) := ⟨_, rfl⟩
  unfold SelPost at HD
  rw [← hds] at HM HL HD HP HE0 HE1
  clear hds hNN
  by_cases hnil : ds = []
  · have HNL := Lib.hid hnil
    clear hnil
    go_enter Try.func22, Try.ntmps22
    go_wp2_with fail
    refine HD.out.mono ?_
    intro e w1 hpost
    obtain ⟨v, he, hr, hgr, _⟩ := hpost
    subst he
    have HR := Lib.hid (show IRow w1 v [] by rw [← HNL.out]; exact hr)
    have HGR := Lib.hid hgr
    clear hr hgr
    go_wp2_with fail
    refine (pick_none HR.out z).mono ?_
    rintro e w' ⟨rfl, rfl⟩
    go_wp2_with fail
    go_ret2
    rw [HP.out]
    refine ⟨by rw [HNL.out]; rfl, ?_⟩
    rw [HE0.out HNL.out]
    exact Stands.of_grow HC.out HGR.out
  · have HNL := Lib.hid hnil
    have hm := HM.out _ (pickI_mem hnil z)
    obtain ⟨b, hb⟩ : ∃ b : Nat, pickI ds z = (b : Int) := ⟨(pickI ds z).toNat, by omega⟩
    rw [hb] at hm
    have HB := Lib.hid hb
    have HKK := Lib.hid (keyOf_ik (i := (b : Int)) (by unfold IntOk; omega))
    clear hnil hm hb
    go_enter Try.func22, Try.ntmps22
    go_wp2_with fail
    refine HD.out.mono ?_
    intro e w1 hpost
    obtain ⟨v, he, hr, hgr, _⟩ := hpost
    subst he
    have HR := Lib.hid hr
    have HGR := Lib.hid hgr
    have HC1 := Lib.hid (HC.out.grow hgr)
    clear hr hgr
    go_wp2_with fail
    refine (pick_some HR.out HNL.out (by have := HL.out; omega) z hz).mono ?_
    rintro e w' ⟨rfl, rfl⟩
    rw [HB.out]
    obtain ⟨bm, bp, S, hU, hcp⟩ := HC1.out
    have HU := Lib.hid hU
    have HCP := Lib.hid hcp
    obtain ⟨_, c1, _⟩ := hcp.cells
    obtain ⟨D, hown, hmm⟩ := hcp.has
    have HO := Lib.hid hown
    have HMM := Lib.hid hmm
    clear hU hcp hown hmm
    go_wp2_with (first | (at_delete; refine wpList_delete_own _ rfl _ _ 55 3 rfl 77 keyInt Try.underlying55 _ bm n D rfl HO.out _ (ik b) rfl HKK.out ?_; intro w2 hown1 hturn1))
    have HF := Lib.hid (show Stands C B U n { s with f := delF s.f b } w w2 from Stands.after HGR.out (Stands.of_touch ⟨bm, bp, S, HU.out, HCP.out.turned (Nat.le_refl _) hturn1.grown hown1 (HMM.out.del b)⟩ (Touch.grown hturn1.grown (fun k e => by cases e; rw [HU.out]; simp))))
    clear hown1 hturn1 c1
    go_wp2_with fail
    go_ret2
    rw [HP.out]
    refine ⟨by rw [if_neg HNL.out, decide_eq_false HNL.out, HB.out]; rfl, ?_⟩
    rw [HE1.out HNL.out, HB.out]
    exact HF.out
#print axioms ev_ok
def CS.backs (s : CS) (zs : List Int) : CS := zs.foldl (fun s b => s.back b) s
theorem backs_snoc (s : CS) (zs : List Int) (b : Int) : s.backs (zs ++ [b]) = (s.backs zs).back b := by unfold CS.backs; rw [List.foldl_append]; rfl
theorem CGood.backs {N : Nat} : ∀ (zs : List Int) {k : Nat} {s : CS}, CGood N k s → (∀ z ∈ zs, 0 ≤ z ∧ z < N) → CGood N (k + zs.length) (s.backs zs) := by
  intro zs
  induction zs with
  | nil => intro k s h _; exact h
  | cons z zs ih =>
    intro k s h hz
    have h1 := hz z (by simp)
    obtain ⟨b, rfl⟩ : ∃ b : Nat, z = (b : Int) := ⟨z.toNat, by omega⟩
    have := ih (h.back b (by omega)) (fun y hy => hz y (by simp [hy]))
    rw [show k + (((b : Int) :: zs).length) = k + 1 + zs.length by rw [List.length_cons]; omega]
    exact this
/-- all that is dirty was written back, and the disk flushed -/
def CS.sync (s : CS) : CS := { s.backs (selL s.d.safe.length (isDirty s.f)) with d := (s.backs (selL s.d.safe.length (isDirty s.f))).d.flushed }
theorem back_lens (s : CS) (b : Int) : (s.back b).d.safe = s.d.safe := by
  unfold CS.back
  split <;> rfl
set_option maxRecDepth 100000 in
set_option maxHeartbeats 4000000 in
theorem sync_ok {w : World} {C B : Nat} {U : List Nat} {n N k : Nat} {s : CS} (h : IsCache w C B U n s) (hn : n ≤ 900000) (hg : CGood N k s) (hk : k ≤ 90000) :
    Calls Try.prog 26 #[.pointer (some ⟨C, 0, none⟩)] w fun e w' => e = .returned (.int .i64 0) ∧ Stands C B U (n + N) s.sync w w' := by
  have HC := Lib.hid h
  have HG := Lib.hid hg
  have hN := h.facts.2.1
  have HW : Hid (s.sync = { s.backs (selL s.d.safe.length (isDirty s.f)) with d := (s.backs (selL s.d.safe.length (isDirty s.f))).d.flushed }) := Lib.hid rfl
  have HD := Lib.hid (dirty_ok h)
  have HL := Lib.hid (selL_length s.d.safe.length (isDirty s.f))
  have HM := Lib.hid (fun i (hi : i ∈ selL s.d.safe.length (isDirty s.f)) => (selL_mem.1 hi).1)
  rw [hg.safe] at HM
  rw [hg.safe] at HL HD HW hN
  clear h hg
  obtain ⟨ds, hds⟩ : ∃ ds, ds = selL N (isDirty s.f) := ⟨_, rfl⟩
  unfold SelPost at HD
  rw [← hds] at HM HL HD HW
  clear hds
  go_enter Try.func26, Try.ntmps26
  go_wp2_with fail
  refine (cmade_yes HC.out).mono ?_
  rintro e w' ⟨rfl, rfl⟩
  go_wp2_with fail
  refine HD.out.mono ?_
  intro e w1 hpost
  obtain ⟨v, he, hr, hgr, hv⟩ := hpost
  subst he
  obtain ⟨ad, cap, rfl⟩ := hr.len
  obtain ⟨L, hL⟩ : ∃ L, L = ds.length := ⟨_, rfl⟩
  rw [← hL] at hr hv ⊢
  have HLE := Lib.hid hL
  have hl2 : L ≤ N := by rw [hL]; exact HL.out
  have HR := Lib.hid hr
  have HNU := Lib.hid (show ∀ g, (Value.slice ad L cap).ownBlock = some g → g ∉ U from fun g e hm => by have := hv g e; have := HC.out.lt g hm; omega)
  have HST0 := Lib.hid (show Stands C B U (n + 0) (s.backs (ds.take 0)) w w1 from Stands.of_grow HC.out hgr)
  have HRL := Lib.hid (show ∀ g, (Value.slice ad L cap).ownBlock = some g → w.heap.size ≤ g ∧ g < w1.heap.size from fun g e => ⟨hv g e, Row.lt hr e⟩)
  have HGR := Lib.hid hgr
  clear hr hgr hv hL
  go_wp2_with fail
  go_loopw [12] (fun t12 wr => ∃ i : Nat, i ≤ L ∧ t12 = .int .i64 (i : Int) ∧ ∃ U1, Hid (IsCache wr C B U1 (n + i) (s.backs (ds.take i))) ∧ Hid (Touch U w wr) ∧ Hid (∀ k ∈ U1, k ∈ U ∨ w.heap.size ≤ k) ∧ Hid (IRow wr (.slice ad L cap) ds) ∧ Hid (∀ g, (Value.slice ad L cap).ownBlock = some g → g ∉ U1)) (fun t12 _ => L - (intOf t12).toNat)
  case atStart => exact ⟨0, by omega, rfl, U, Lib.hid (HC.out.grow HGR.out), Lib.hid (Touch.of_below HGR.out), Lib.hid (fun k hk => .inl hk), HR, HNU⟩
  case round =>
    obtain ⟨i, hi, rfl, U1, HCi, HTi, HUi, HRi, HNi⟩ := hrel
    by_cases hlt : i < L
    · have hil : i < ds.length := by rw [← HLE.out]; exact hlt
      obtain ⟨z, hz⟩ : ∃ z, ds[i]? = some z := ⟨ds[i], by simp [hil]⟩
      have hzm := HM.out z (List.mem_of_getElem? hz)
      obtain ⟨b, rfl⟩ : ∃ b : Nat, z = (b : Int) := ⟨z.toNat, by omega⟩
      obtain ⟨g, cap', hv⟩ := HRi.out.open_ (by omega)
      rw [← HLE.out] at hv
      cases hv
      have y0 := IRow.cell HRi.out hz
      have b0 : (0 : Int) ≤ (i : Int) := by omega
      have b1 : (i : Int) < (L : Int) := by omega
      have HGi := Lib.hid (HG.out.backs (ds.take i) (fun y hy => HM.out y (List.mem_of_mem_take hy)))
      have HTL := Lib.hid (show (ds.take i).length = i by rw [List.length_take]; omega)
      rw [HTL.out] at HGi
      have HBS := Lib.hid (show s.backs (ds.take (i + 1)) = (s.backs (ds.take i)).back (b : Int) by rw [← backs_snoc, List.take_succ_eq_append_getElem hil, (List.getElem?_eq_some_iff.1 hz).2])
      have HBN := Lib.hid (show b < N by omega)
      clear hz hil hzm
      go_wp2_with fail
      refine (cback_any HCi.out (by omega) HGi.out (by omega) b HBN.out).mono ?_
      intro e w2 hpost
      obtain ⟨he, U2, hc2, ht2, hu2⟩ := hpost
      subst he
      have HC2 := Lib.hid (show IsCache w2 C B U2 (n + (i + 1)) (s.backs (ds.take (i + 1))) by rw [HBS.out]; exact hc2)
      have HT2 := Lib.hid (show Touch U w w2 from HTi.out.trans ht2 HUi.out)
      have HU2 := Lib.hid (show ∀ k ∈ U2, k ∈ U ∨ w.heap.size ≤ k from fun k hk => by
        rcases hu2 k hk with h | h
        · exact HUi.out k h
        · exact .inr (Nat.le_trans HTi.out.size h))
      have HR2 := Lib.hid (show IRow w2 (.slice (some ⟨g, 0, none⟩) L cap) ds from Row.kept HRi.out ht2 (fun g' e => HNi.out g' e))
      have HN2 := Lib.hid (show ∀ g', (Value.slice (some ⟨g, 0, none⟩) L cap).ownBlock = some g' → g' ∉ U2 from fun g' e hm => by
        rcases hu2 g' hm with h | h
        · exact HNi.out g' e h
        · have := Row.lt HRi.out e; omega)
      clear hc2 ht2 hu2 y0
      go_wp2_with fail
      go_roundw
      case rel => exact ⟨i + 1, by omega, by go_num, U2, HC2, HT2, HU2, HR2, HN2⟩
      case measure => simp [intOf]; omega
    · obtain rfl : L = i := by omega
      have HTK := Lib.hid (show ds.take L = ds by rw [HLE.out]; exact List.take_length)
      have HCi' := HCi
      rw [HTK.out] at HCi'
      obtain ⟨bm, bp, S, hU, hcp⟩ := HCi'.out
      have HUU := Lib.hid hU
      have HCP := Lib.hid hcp
      obtain ⟨c0, _, _⟩ := hcp.cells
      have HGi := Lib.hid (HG.out.backs ds HM.out)
      rw [← HLE.out] at HGi
      clear hU hcp HCi
      go_wp2_with fail
      refine (flush_ok HCP.out.disk HGi.out.dead (by rw [HGi.out.safe]; exact HGi.out.wlt) (by have := HGi.out.ws; omega) (by have := HGi.out.acts; omega) (by rw [HGi.out.left]; omega)).mono ?_
      intro e w3 hpost
      obtain ⟨he, hd3, ht3⟩ := hpost
      subst he
      have hcl : C ∉ S ∧ bm ∉ S ∧ bp ∉ S := ⟨HCP.out.cS, HCP.out.mS, HCP.out.pS⟩
      have HF := Lib.hid (show Stands C B U (n + N) s.sync w w3 by
        rw [HW.out]
        refine ⟨U1, ⟨bm, bp, S, HUU.out, ?_⟩, HTi.out.trans ht3 (fun i hi => HUi.out i (by rw [HUU.out]; simp [hi])), HUi.out⟩
        exact {
          obj := (ht3.block C HCP.out.lt.1 hcl.1).trans HCP.out.obj
          disk := hd3
          has := by
            obtain ⟨D, h1, h2⟩ := HCP.out.has
            refine ⟨D, (ownsMap_touch h1 ht3 hcl.2.1).mono (by omega), ?_⟩
            have e : (s.backs ds).d.flushed.safe.length = (s.backs ds).d.safe.length := applyW_length _ _
            show HMap (s.backs ds).d.flushed.safe.length D (s.backs ds).f
            rw [e]; exact h2
          pin := by
            obtain ⟨D, h1, h2⟩ := HCP.out.pin
            exact ⟨D, (ownsMap_touch h1 ht3 hcl.2.2).mono (by omega), h2⟩
          cS := hcl.1
          mS := hcl.2.1
          pS := hcl.2.2
          mp := HCP.out.mp })
      clear hd3 ht3 c0
      go_wp2_with fail
      go_ret
      exact ⟨rfl, HF.out⟩
#print axioms sync_ok
end Go.Proofs.Ytmfofobmceflmaa
