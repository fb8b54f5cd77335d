/- The laws' evicted: the walk. -/
import Derived.Test.YtmfofobmceflmaaC12
set_option linter.unusedVariables false
set_option linter.unusedSimpArgs false
namespace Go.Proofs.Ytmfofobmceflmaa
open Go.RowKit Go.Maps

/-- what is left when some blocks went -/
def evF (f : Int → Option Hd) (zs : List Int) : Int → Option Hd := fun j => if j ∈ zs then none else f j
theorem evF_nil (f : Int → Option Hd) : evF f [] = f := by funext j; simp [evF]
theorem evF_snoc (f : Int → Option Hd) (zs : List Int) (b : Int) : delF (evF f zs) b = evF f (zs ++ [b]) := by
  funext j
  unfold delF evF
  by_cases e : j = b
  · subst e; simp
  · simp [e]
theorem isClean_evF {f : Int → Option Hd} {p : Int → Bool} {zs : List Int} (j : Int) : isClean (evF f zs) p j = if j ∈ zs then false else isClean f p j := by
  unfold isClean evF
  by_cases e : j ∈ zs
  · rw [if_pos e, if_pos e]
  · rw [if_neg e, if_neg e]
theorem isDirty_evF {f : Int → Option Hd} {zs : List Int} (j : Int) : isDirty (evF f zs) j = if j ∈ zs then false else isDirty f j := by
  unfold isDirty evF
  by_cases e : j ∈ zs
  · rw [if_pos e, if_pos e]
  · rw [if_neg e, if_neg e]
theorem left_clean (N : Nat) (f : Int → Option Hd) (p : Int → Bool) (i : Nat) : selL N (isClean (evF f ((selL N (isClean f p)).take i)) p) = (selL N (isClean f p)).drop i := by
  have hn := selL_nodup N (isClean f p)
  have hs := selL_le N (isClean f p)
  have hmem : ∀ x, x ∈ selL N (isClean f p) ↔ (0 ≤ x ∧ x < N) ∧ isClean f p x = true := fun x => selL_mem
  generalize hz : selL N (isClean f p) = zs at *
  have hsplit := List.take_append_drop i zs
  have hnd : (zs.take i ++ zs.drop i).Nodup := by rw [hsplit]; exact hn
  have hdis := (List.nodup_append.1 hnd).2.2
  refine sorted_unique _ _ ((List.perm_ext_iff_of_nodup (selL_nodup _ _) (hn.sublist (List.drop_sublist i zs))).2 (fun x => ?_)) (selL_le _ _) (hs.sublist (List.drop_sublist i zs))
  rw [selL_mem, isClean_evF]
  constructor
  · rintro ⟨h1, h2⟩
    by_cases e : x ∈ zs.take i
    · rw [if_pos e] at h2; cases h2
    · rw [if_neg e] at h2
      have : x ∈ zs.take i ++ zs.drop i := by rw [hsplit]; exact (hmem x).2 ⟨h1, h2⟩
      rcases List.mem_append.1 this with h | h
      · exact absurd h e
      · exact h
  · intro h
    have hx := (hmem x).1 (List.mem_of_mem_drop h)
    refine ⟨hx.1, ?_⟩
    rw [if_neg (fun h' => hdis x h' x h rfl)]
    exact hx.2
theorem pickI_zero {zs : List Int} {i : Nat} {z : Int} (h : zs[i]? = some z) : zs.drop i ≠ [] ∧ pickI (zs.drop i) 0 = z := by
  have hi := (List.getElem?_eq_some_iff.1 h).1
  have hl : 0 < (zs.drop i).length := by rw [List.length_drop]; omega
  refine ⟨List.length_pos_iff.1 hl, ?_⟩
  unfold pickI
  rw [show (0 : Int).toNat % (zs.drop i).length = 0 by simp, List.getD_eq_getElem?_getD, List.getElem?_drop, Nat.add_zero, h]
  rfl
def EvictedPost (C B : Nat) (U : List Nat) (n : Nat) (s : CS) (zs : List Int) (w : World) (e : Ending) (w' : World) : Prop := ∃ v, e = .returned v ∧ IRow w' v zs ∧ Stands C B U n { s with f := evF s.f zs } w w'
set_option maxRecDepth 100000 in
set_option maxHeartbeats 4000000 in
theorem evicted_ok {w : World} {C B : Nat} {U : List Nat} {n N k : Nat} {s : CS} (h : IsCache w C B U n s) (hg : CGood N k s) (hN : N ≤ 64) :
    Calls Try.prog 16 #[.pointer (some ⟨C, 0, none⟩)] w (EvictedPost C B U n s (selL N (isClean s.f s.p)) w) := by
  have HLC := Lib.hid (left_clean N s.f s.p)
  have HL := Lib.hid (selL_length N (isClean s.f s.p))
  obtain ⟨zs, hzs⟩ : ∃ zs, zs = selL N (isClean s.f s.p) := ⟨_, rfl⟩
  rw [← hzs] at HLC HL ⊢
  obtain ⟨i0, hi0, hz0, hz1, hz2⟩ := info_parts info3
  have HI0 := Lib.hid hi0
  have HC0 := Lib.hid (show IsCache w C B U n { s with f := evF s.f (zs.take 0) } by rw [List.take_zero, evF_nil]; exact h)
  have HSL := Lib.hid hg.safe
  clear h hg hi0 hzs
  go_enter Try.func16, Try.ntmps16
  go_wp2_with fail
  go_loopw [3, 4] (fun t3 t4 wr => ∃ i : Nat, i ≤ 64 ∧ t4 = .int .i64 (i : Int) ∧ (∃ a3 n3 c3, t3 = .slice a3 n3 c3) ∧ ∃ U1, Hid (IsCache wr C B U1 n { s with f := evF s.f (zs.take i) }) ∧ Hid (Touch U w wr) ∧ Hid (∀ k ∈ U1, k ∈ U ∨ w.heap.size ≤ k) ∧ Hid (IRow wr t3 (zs.take i)) ∧ Hid (∀ g, t3.ownBlock = some g → g ∉ U1 ∧ w.heap.size ≤ g)) (fun t3 t4 _ => 64 - (intOf t4).toNat)
  case atStart => exact ⟨0, by omega, rfl, ⟨none, 0, 0, rfl⟩, U, HC0, Lib.hid (Touch.refl _ _), Lib.hid (fun k hk => .inl hk), Lib.hid (by rw [List.take_zero]; exact rowNil _ _ _), Lib.hid (fun g e => by cases e)⟩
  case round =>
    obtain ⟨i, hi, rfl, ⟨a3, n3, c3, rfl⟩, U1, HCi, HTi, HUi, HRi, HOi⟩ := hrel
    by_cases hlt : i < 64
    · have HEV := Lib.hid (by
        have := ev_ok HCi.out 0 (by omega)
        unfold EvPost CS.ev at this
        rw [show ({ s with f := evF s.f (zs.take i) } : CS).d.safe.length = N from HSL.out] at this
        rw [show selL N (isClean ({ s with f := evF s.f (zs.take i) } : CS).f ({ s with f := evF s.f (zs.take i) } : CS).p) = zs.drop i from HLC.out i] at this
        exact this)
      by_cases hil : i < zs.length
      · obtain ⟨z, hz⟩ : ∃ z, zs[i]? = some z := ⟨zs[i], by simp [hil]⟩
        obtain ⟨hne, hpk⟩ := pickI_zero hz
        have HTK := Lib.hid (show zs.take (i + 1) = zs.take i ++ [z] by rw [List.take_succ_eq_append_getElem hil, (List.getElem?_eq_some_iff.1 hz).2])
        rw [if_neg hne, decide_eq_false hne, hpk, if_neg hne] at HEV
        have HTL := Lib.hid (show (zs.take i).length ≤ 64 by rw [List.length_take]; omega)
        clear hz hne hpk hil
        go_wp2_with fail
        refine HEV.out.mono ?_
        intro e w2 hpost
        obtain ⟨he, U2, hc2, ht2, hu2⟩ := hpost
        subst he
        have HC2 := Lib.hid (show IsCache w2 C B U2 n { s with f := evF s.f (zs.take (i + 1)) } by
          have hh : IsCache w2 C B U2 n { s with f := delF (evF s.f (zs.take i)) z } := hc2
          rw [evF_snoc, ← HTK.out] at hh; exact hh)
        have HT2 := Lib.hid (show Touch U w w2 from HTi.out.trans ht2 HUi.out)
        have HU2 := Lib.hid (show ∀ k ∈ U2, k ∈ U ∨ w.heap.size ≤ k from fun k hk => by
          rcases hu2 k hk with h | h
          · exact HUi.out k h
          · exact .inr (Nat.le_trans HTi.out.size h))
        have HR2 := Lib.hid (show IRow w2 (.slice a3 n3 c3) (zs.take i) from Row.kept HRi.out ht2 (fun g e => (HOi.out g e).1))
        have HO2 := Lib.hid (show ∀ g, (Value.slice a3 n3 c3).ownBlock = some g → g ∉ U2 ∧ w.heap.size ≤ g from fun g e => ⟨fun hm => by
          rcases hu2 g hm with h | h
          · exact (HOi.out g e).1 h
          · have := Row.lt HRi.out e; omega, (HOi.out g e).2⟩)
        clear hc2 ht2 hu2 HEV
        go_wp2_with (first | (at_builtin; refine wpList_append_row rfl _ _ 28 rfl 3 i0 (.int .i64 0) 1 8 Try.underlying28 HI0.out hz0 hz1 hz2 rfl (by omega) (.slice a3 n3 c3) ((zs.take i).map icell) rfl (Row.kept HR2.out (Touch.alloc [] _ _) (by simp)) _ 1 (icell z) rfl rfl (new_cells _ _ _) (fun u hu => by rw [List.mem_singleton.1 hu]; rfl) (by rw [List.length_map]; have := HTL.out; omega) (by omega) ?_; intro v' wa happ htch))
        have htw : Touch (ownL (.slice a3 n3 c3)) w2 wa := (Touch.alloc _ _ _).trans htch (fun i hi => .inl hi)
        have HCa := Lib.hid (show IsCache wa C B U2 n { s with f := evF s.f (zs.take (i + 1)) } from HC2.out.kept htw (fun k hk hm => (HO2.out k (ownL_mem.1 hm)).1 hk))
        have HTa := Lib.hid (show Touch U w wa from HT2.out.trans htw (fun k hk => .inr (HO2.out k (ownL_mem.1 hk)).2))
        have HRa := Lib.hid (show IRow wa v' (zs.take (i + 1)) by rw [HTK.out]; unfold IRow; rw [List.map_append]; exact happ.1)
        have HOa := Lib.hid (show ∀ g, v'.ownBlock = some g → g ∉ U2 ∧ w.heap.size ≤ g from fun g e => by
          rcases happ.2 with h1 | ⟨g', h1, h2⟩
          · exact HO2.out g (h1 ▸ e)
          · rw [e] at h1; cases h1
            have h3 : w2.heap.size ≤ g := by
              have := h2
              simp at this
              omega
            exact ⟨fun hm => by have := HC2.out.lt g hm; omega, Nat.le_trans HT2.out.size h3⟩)
        obtain ⟨aa, cc, hh⟩ := HRa.out.len
        clear happ htch htw
        subst hh
        go_wp2_with fail
        go_roundw
        case rel => exact ⟨i + 1, by omega, by go_num, ⟨_, _, _, rfl⟩, U2, HCa, HTa, HU2, HRa, HOa⟩
        case measure => simp [intOf]; omega
      · have hdr : zs.drop i = [] := List.drop_eq_nil_of_le (by omega)
        have HTK := Lib.hid (show zs.take (i + 1) = zs.take i by rw [List.take_of_length_le (by omega), List.take_of_length_le (by omega)])
        rw [hdr] at HEV
        clear hdr hil
        go_wp2_with fail
        refine HEV.out.mono ?_
        intro e w2 hpost
        obtain ⟨he, U2, hc2, ht2, hu2⟩ := hpost
        replace he : e = .returned (.tuple #[.int .i64 0, .bool false]) := by rw [he]; rfl
        subst he
        have HC2 := Lib.hid (show IsCache w2 C B U2 n { s with f := evF s.f (zs.take (i + 1)) } by rw [HTK.out]; exact hc2)
        have HT2 := Lib.hid (show Touch U w w2 from HTi.out.trans ht2 HUi.out)
        have HU2 := Lib.hid (show ∀ k ∈ U2, k ∈ U ∨ w.heap.size ≤ k from fun k hk => by
          rcases hu2 k hk with h | h
          · exact HUi.out k h
          · exact .inr (Nat.le_trans HTi.out.size h))
        have HR2 := Lib.hid (show IRow w2 (.slice a3 n3 c3) (zs.take (i + 1)) by rw [HTK.out]; exact Row.kept HRi.out ht2 (fun g e => (HOi.out g e).1))
        have HO2 := Lib.hid (show ∀ g, (Value.slice a3 n3 c3).ownBlock = some g → g ∉ U2 ∧ w.heap.size ≤ g from fun g e => ⟨fun hm => by
          rcases hu2 g hm with h | h
          · exact (HOi.out g e).1 h
          · have := Row.lt HRi.out e; omega, (HOi.out g e).2⟩)
        clear hc2 ht2 hu2 HEV
        go_wp2_with fail
        go_roundw
        case rel => exact ⟨i + 1, by omega, by go_num, ⟨_, _, _, rfl⟩, U2, HC2, HT2, HU2, HR2, HO2⟩
        case measure => simp [intOf]; omega
    · obtain rfl : i = 64 := by omega
      have HTK := Lib.hid (show zs.take 64 = zs from List.take_of_length_le (by have := HL.out; omega))
      go_wp2_with fail
      go_ret
      refine ⟨_, rfl, by have := HRi.out; rw [HTK.out] at this; exact this, U1, by have := HCi.out; rw [HTK.out] at this; exact this, HTi.out, HUi.out⟩
#print axioms evicted_ok
end Go.Proofs.Ytmfofobmceflmaa
