/- cache: pick, Writeback, Evict, Sync; rows of integers: the walks. -/
import Derived.Test.YtmfofobmceflmaaC6
import Derived.OwnWalk
set_option linter.unusedVariables false
set_option linter.unusedSimpArgs false
namespace Go.Proofs.Ytmfofobmceflmaa
open Go.RowKit Go.Maps

theorem IRow.cell {w : World} {g n cap : Nat} {zs : List Int} (h : IRow w (.slice (some ⟨g, 0, none⟩) n cap) zs) {k : Nat} {z : Int} (hk : zs[k]? = some z) : w.cell? ⟨g, k, none⟩ = some (.int .i64 z) := by
  have hr := Row.range h (i := k) (c := icell z) (by rw [List.getElem?_map, hk]; rfl)
  have := hr 0 _ rfl
  rw [Nat.mul_one, Nat.add_zero] at this
  exact this
theorem IRow.open_ {w : World} {v : Value} {zs : List Int} (h : IRow w v zs) (hl : 0 < zs.length) : ∃ g cap, v = .slice (some ⟨g, 0, none⟩) zs.length cap := by
  obtain ⟨g, cap, hv, _⟩ := Row.open_ h (by rw [List.length_map]; exact hl)
  rw [List.length_map] at hv
  exact ⟨g, cap, hv⟩
theorem IRow.len {w : World} {v : Value} {zs : List Int} (h : IRow w v zs) : ∃ a cap, v = .slice a zs.length cap := by
  obtain ⟨a, cap, hv⟩ := Row.len h
  rw [List.length_map] at hv
  exact ⟨a, cap, hv⟩
theorem IRow.grow {w w' : World} {v : Value} {zs : List Int} (h : IRow w v zs) (hg : Grow w w') : IRow w' v zs := Row.kept h (Touch.of_below (S := []) hg) (by simp)
theorem pick_none {w : World} {v : Value} (h : IRow w v []) (n : Int) : Calls Try.prog 36 #[v, .int .i64 n] w fun e w' => e = .returned (.tuple #[.int .i64 0, .bool false]) ∧ w = w' := by
  obtain ⟨a, cap, rfl⟩ := h.len
  clear h
  go_enter Try.func36, Try.ntmps36
  go_wp2_with fail
  go_ret2
  exact ⟨rfl, rfl⟩
/-- the one that is picked -/
def pickI (zs : List Int) (n : Int) : Int := zs.getD (n.toNat % zs.length) 0
theorem pickI_mem {zs : List Int} (h : zs ≠ []) (n : Int) : pickI zs n ∈ zs := by
  have h0 : 0 < zs.length := List.length_pos_iff.2 h
  have hj := Nat.mod_lt n.toNat h0
  unfold pickI
  rw [List.getD_eq_getElem?_getD, List.getElem?_eq_getElem hj]
  exact List.getElem_mem _
set_option maxHeartbeats 1000000 in
theorem pick_some {w : World} {v : Value} {zs : List Int} (h : IRow w v zs) (hz : zs ≠ []) (hl : zs.length ≤ 100000) (n : Int) (hn : n ≤ 9223372036854775807) : Calls Try.prog 36 #[v, .int .i64 n] w fun e w' => e = .returned (.tuple #[.int .i64 (pickI zs n), .bool true]) ∧ w = w' := by
  have h0 : 0 < zs.length := List.length_pos_iff.2 hz
  obtain ⟨g, cap, rfl⟩ := h.open_ h0
  obtain ⟨j, hj⟩ : ∃ j, j = n.toNat % zs.length := ⟨_, rfl⟩
  have hjl : j < zs.length := by rw [hj]; exact Nat.mod_lt _ h0
  have hpk : zs[j]? = some (pickI zs n) := by unfold pickI; rw [← hj, List.getD_eq_getElem?_getD, List.getElem?_eq_getElem hjl]; rfl
  have c0 := h.cell hpk
  obtain ⟨m, hm⟩ : ∃ m : Nat, m = n.toNat := ⟨_, rfl⟩
  have hmx : max n 0 = (m : Int) := by omega
  rw [← hm] at hj
  generalize pickI zs n = z at *
  generalize zs.length = L at *
  have e0 : ((L : Int) == 0) = false := by simp; omega
  have hr : (m : Int).tmod (L : Int) = (j : Int) := by rw [Int.tmod_eq_emod_of_nonneg (by omega), hj]; exact (Int.natCast_emod m L).symm
  have b0 : (0 : Int) ≤ (j : Int) := by omega
  have b1 : (j : Int) < (L : Int) := by omega
  clear h hj hpk hm
  go_enter Try.func36, Try.ntmps36
  go_wp2_with fail
  go_ret2
  exact ⟨rfl, rfl⟩
#print axioms pick_some
/-- a cache whose disk's power does not go -/
structure CGood (N k : Nat) (s : CS) : Prop where
  safe : s.d.safe.length = N
  last : s.d.last = applyW s.d.safe s.d.ws
  set : s.d.set = false
  left : s.d.left = 0
  ws : s.d.ws.length ≤ k
  acts : 0 ≤ s.d.acts ∧ s.d.acts ≤ k
  wlt : ∀ p ∈ s.d.ws, p.1 < N
theorem CGood.dead {N k : Nat} {s : CS} (h : CGood N k s) : s.d.dead = false := by unfold DS.dead; rw [h.set]; rfl
theorem CGood.more {N k k' : Nat} {s : CS} (h : CGood N k s) (hk : k ≤ k') : CGood N k' s := { h with ws := Nat.le_trans h.ws hk, acts := ⟨h.acts.1, by have := h.acts.2; omega⟩ }
theorem CGood.same {N k : Nat} {s s' : CS} (h : CGood N k s) (hd : s'.d = s.d) : CGood N k s' := by
  constructor
  · rw [hd]; exact h.safe
  · rw [hd]; exact h.last
  · rw [hd]; exact h.set
  · rw [hd]; exact h.left
  · rw [hd]; exact h.ws
  · rw [hd]; exact h.acts
  · rw [hd]; exact h.wlt
theorem CGood.wrote {N k : Nat} {s s' : CS} (h : CGood N k s) (b : Nat) (hb : b < N) (x : Blk) (hd : s'.d = s.d.wrote b x) : CGood N (k + 1) s' := by
  constructor
  · rw [hd]; exact h.safe
  · rw [hd]; show s.d.last.set b x = applyW s.d.safe (s.d.ws ++ [(b, x)]); rw [applyW_snoc, h.last]
  · rw [hd]; exact h.set
  · rw [hd]; show (if s.d.set then s.d.left - 1 else s.d.left) = 0; rw [h.set]; exact h.left
  · rw [hd]; show (s.d.ws ++ [(b, x)]).length ≤ k + 1; rw [List.length_append]; have := h.ws; simp; omega
  · rw [hd]; show 0 ≤ s.d.acts + 1 ∧ s.d.acts + 1 ≤ _; have := h.acts; omega
  · rw [hd]
    intro p hp
    rcases List.mem_append.1 (show p ∈ s.d.ws ++ [(b, x)] from hp) with h1 | h1
    · exact h.wlt p h1
    · rw [List.mem_singleton.1 h1]; exact hb
theorem CGood.flushed {N k : Nat} {s s' : CS} (h : CGood N k s) (hd : s'.d = s.d.flushed) : CGood N (k + 1) s' := by
  constructor
  · rw [hd]; show (applyW s.d.safe s.d.ws).length = N; rw [applyW_length]; exact h.safe
  · rw [hd]; exact h.last
  · rw [hd]; exact h.set
  · rw [hd]; show (if s.d.set then s.d.left - 1 else s.d.left) = 0; rw [h.set]; exact h.left
  · rw [hd]; exact Nat.zero_le _
  · rw [hd]; show 0 ≤ s.d.acts + 1 ∧ s.d.acts + 1 ≤ _; have := h.acts; omega
  · rw [hd]; intro p hp; cases hp
theorem CGood.new (N : Nat) : CGood N 0 (newC (newD N)) := ⟨by simp [newC, newD], rfl, rfl, rfl, Nat.le_refl _, ⟨Int.le_refl _, Int.le_refl _⟩, fun p h => (by cases h)⟩
theorem IsCache.mono {w : World} {C B : Nat} {U : List Nat} {n n' : Nat} {s : CS} (h : IsCache w C B U n s) (hn : n ≤ n') : IsCache w C B U n' s := by
  obtain ⟨bm, bp, S, hU, h⟩ := h
  exact ⟨bm, bp, S, hU, { h with has := by obtain ⟨D, h1, h2⟩ := h.has; exact ⟨D, h1.mono hn, h2⟩, pin := by obtain ⟨D, h1, h2⟩ := h.pin; exact ⟨D, h1.mono hn, h2⟩ }⟩
theorem IsCache.facts {w : World} {C B : Nat} {U : List Nat} {n : Nat} {s : CS} (h : IsCache w C B U n s) : 1 ≤ s.d.safe.length ∧ s.d.safe.length ≤ 2048 ∧ s.d.last.length = s.d.safe.length ∧ (∀ x ∈ s.d.last, x.length = 256) ∧ ∀ i x, s.f i = some x → (0 ≤ i ∧ i < s.d.safe.length) ∧ x.1.length = 256 := by
  obtain ⟨bm, bp, S, hU, h⟩ := h
  obtain ⟨D, _, hm⟩ := h.has
  exact ⟨h.disk.one.1, h.disk.one.2.1, h.disk.one.2.2, h.disk.row, hm.dom⟩
theorem IsCache.disk {w : World} {C B : Nat} {U : List Nat} {n : Nat} {s : CS} (h : IsCache w C B U n s) : ∃ S, IsDisk w B S s.d ∧ ∀ k ∈ S, k ∈ U := by
  obtain ⟨bm, bp, S, rfl, h⟩ := h
  exact ⟨S, h.disk, fun k hk => by simp [hk]⟩
/-- the cache stands, with other contents, in memory that is its own or new -/
def Stands (C B : Nat) (U : List Nat) (n : Nat) (s : CS) (w w' : World) : Prop := ∃ U', IsCache w' C B U' n s ∧ Touch U w w' ∧ ∀ k ∈ U', k ∈ U ∨ w.heap.size ≤ k
theorem Stands.of_grow {w w' : World} {C B : Nat} {U : List Nat} {n : Nat} {s : CS} (h : IsCache w C B U n s) (hg : Grow w w') : Stands C B U n s w w' := ⟨U, h.grow hg, Touch.of_below hg, fun k hk => .inl hk⟩
theorem Stands.of_touch {w w' : World} {C B : Nat} {U : List Nat} {n : Nat} {s : CS} (h : IsCache w' C B U n s) (ht : Touch U w w') : Stands C B U n s w w' := ⟨U, h, ht, fun k hk => .inl hk⟩
theorem Stands.mono {w w' : World} {C B : Nat} {U : List Nat} {n n' : Nat} {s : CS} (h : Stands C B U n s w w') (hn : n ≤ n') : Stands C B U n' s w w' := by
  obtain ⟨U', h1, h2, h3⟩ := h
  exact ⟨U', h1.mono hn, h2, h3⟩
theorem Stands.after {w w1 w' : World} {C B : Nat} {U : List Nat} {n : Nat} {s : CS} (hg : Grow w w1) (h : Stands C B U n s w1 w') : Stands C B U n s w w' := by
  obtain ⟨U', h1, h2, h3⟩ := h
  refine ⟨U', h1, (Touch.of_below hg).trans h2 (fun i hi => .inl hi), fun k hk => ?_⟩
  rcases h3 k hk with h4 | h4
  · exact .inl h4
  · exact .inr (Nat.le_trans hg.size h4)
theorem Stands.trans {w w1 w' : World} {C B : Nat} {U U1 : List Nat} {n : Nat} {s : CS} (ht : Touch U w w1) (hu : ∀ k ∈ U1, k ∈ U ∨ w.heap.size ≤ k) (h : Stands C B U1 n s w1 w') : Stands C B U n s w w' := by
  obtain ⟨U', h1, h2, h3⟩ := h
  refine ⟨U', h1, ht.trans h2 hu, fun k hk => ?_⟩
  rcases h3 k hk with h4 | h4
  · exact hu k h4
  · exact .inr (Nat.le_trans ht.size h4)
def CS.back (s : CS) (b : Int) : CS := match s.f b with | some (x, true) => { s with d := s.d.wrote b.toNat x, f := putF s.f b (x, false) } | _ => s
theorem back_dirty {s : CS} {b : Int} {x : Blk} (h : s.f b = some (x, true)) : s.back b = { s with d := s.d.wrote b.toNat x, f := putF s.f b (x, false) } := by unfold CS.back; rw [h]
theorem back_idle {s : CS} {b : Int} (h : ∀ x, s.f b ≠ some (x, true)) : s.back b = s := by
  unfold CS.back
  split
  · rename_i x hx; exact absurd hx (h x)
  · rfl
theorem CGood.back {N k : Nat} {s : CS} (h : CGood N k s) (b : Nat) (hb : b < N) : CGood N (k + 1) (s.back b) := by
  by_cases hd : ∃ x, s.f b = some (x, true)
  · obtain ⟨x, hx⟩ := hd
    rw [back_dirty hx]
    exact h.wrote b hb x rfl
  · rw [back_idle (fun x hx => hd ⟨x, hx⟩)]
    exact h.more (Nat.le_succ k)
theorem cback_any {w : World} {C B : Nat} {U : List Nat} {n N k : Nat} {s : CS} (h : IsCache w C B U n s) (hn : n ≤ 1000000) (hg : CGood N k s) (hk : k ≤ 100000) (b : Nat) (hb : b < N) :
    Calls Try.prog 25 #[.pointer (some ⟨C, 0, none⟩), .int .i64 (b : Int)] w fun e w' => e = .returned (.int .i64 0) ∧ Stands C B U (n + 1) (s.back b) w w' := by
  have hb' : b < s.d.safe.length := by rw [hg.safe]; exact hb
  have hws := hg.ws
  have hac := hg.acts
  by_cases hd : ∃ x, s.f b = some (x, true)
  · obtain ⟨x, hx⟩ := hd
    rw [back_dirty hx]
    exact cback_dirty h hn b hb' x hx hg.dead (by omega) (by omega) (by rw [hg.left]; omega)
  · have hi : ∀ x, s.f b ≠ some (x, true) := fun x hx => hd ⟨x, hx⟩
    rw [back_idle hi]
    refine (cback_idle h b hb' hi).mono ?_
    rintro e w' ⟨rfl, hgr⟩
    exact ⟨rfl, (Stands.of_grow h hgr).mono (Nat.le_succ n)⟩
/-- a dirty block was written back -/
def CS.wb (s : CS) (n : Int) : CS := if selL s.d.safe.length (isDirty s.f) = [] then s else s.back (pickI (selL s.d.safe.length (isDirty s.f)) n)
def WbPost (C B : Nat) (U : List Nat) (m : Nat) (s : CS) (n : Int) (w : World) (e : Ending) (w' : World) : Prop :=
  e = .returned (.tuple #[.int .i64 (if selL s.d.safe.length (isDirty s.f) = [] then 0 else pickI (selL s.d.safe.length (isDirty s.f)) n), .bool (!decide (selL s.d.safe.length (isDirty s.f) = [])), .int .i64 0]) ∧ Stands C B U (m + 1) (s.wb n) w w'
set_option maxHeartbeats 2000000 in
theorem wb_ok {w : World} {C B : Nat} {U : List Nat} {n N k : Nat} {s : CS} (h : IsCache w C B U n s) (hn : n ≤ 1000000) (hg : CGood N k s) (hk : k ≤ 100000) (z : Int) (hz : z ≤ 9223372036854775807) :
    Calls Try.prog 15 #[.pointer (some ⟨C, 0, none⟩), .int .i64 z] w (WbPost C B U n s z w) := by
  have HC := Lib.hid h
  have HG := Lib.hid hg
  have hN := h.facts.2.1
  have HW : Hid (s.wb z = if selL s.d.safe.length (isDirty s.f) = [] then s else s.back (pickI (selL s.d.safe.length (isDirty s.f)) z)) := Lib.hid rfl
  have HP : Hid (∀ e w', WbPost C B U n s z w e w' ↔ e = .returned (.tuple #[.int .i64 (if selL s.d.safe.length (isDirty s.f) = [] then 0 else pickI (selL s.d.safe.length (isDirty s.f)) z), .bool (!decide (selL s.d.safe.length (isDirty s.f) = [])), .int .i64 0]) ∧ Stands C B U (n + 1) (s.wb z) w w') := Lib.hid (fun e w' => Iff.rfl)
  have HD := Lib.hid (dirty_ok h)
  have HL := Lib.hid (selL_length s.d.safe.length (isDirty s.f))
  have HM := Lib.hid (fun i (hi : i ∈ selL s.d.safe.length (isDirty s.f)) => selL_mem.1 hi)
  rw [hg.safe] at HM
  rw [hg.safe] at HL HD HP HW hN
  clear h hg
  obtain ⟨ds, hds⟩ : ∃ ds, ds = selL N (isDirty s.f) := ⟨_, rfl⟩
  unfold SelPost at HD
  rw [← hds] at HM HL HD HP HW
  clear hds
  by_cases hnil : ds = []
  · have HNL := Lib.hid hnil
    clear hnil
    go_enter Try.func15, Try.ntmps15
    go_wp2_with fail
    refine (cmade_yes HC.out).mono ?_
    rintro e w' ⟨rfl, rfl⟩
    go_wp2_with fail
    refine HD.out.mono ?_
    intro e w1 hpost
    obtain ⟨v, he, hr, hgr, _⟩ := hpost
    subst he
    have HR := Lib.hid (show IRow w1 v [] by rw [← HNL.out]; exact hr)
    have HGR := Lib.hid hgr
    clear hr hgr
    go_wp2_with fail
    refine (pick_none HR.out z).mono ?_
    rintro e w' ⟨rfl, rfl⟩
    go_wp2_with fail
    go_ret3
    rw [HP.out]
    refine ⟨by rw [HNL.out]; rfl, ?_⟩
    rw [HW.out, if_pos HNL.out]
    exact (Stands.of_grow HC.out HGR.out).mono (Nat.le_succ n)
  · have HNL := Lib.hid hnil
    have hm := HM.out _ (pickI_mem hnil z)
    obtain ⟨b, hb⟩ : ∃ b : Nat, pickI ds z = (b : Int) := ⟨(pickI ds z).toNat, by omega⟩
    rw [hb] at hm
    have HB := Lib.hid hb
    have HBN := Lib.hid (show b < N by omega)
    clear hnil hm hb
    go_enter Try.func15, Try.ntmps15
    go_wp2_with fail
    refine (cmade_yes HC.out).mono ?_
    rintro e w' ⟨rfl, rfl⟩
    go_wp2_with fail
    refine HD.out.mono ?_
    intro e w1 hpost
    obtain ⟨v, he, hr, hgr, _⟩ := hpost
    subst he
    have HR := Lib.hid hr
    have HGR := Lib.hid hgr
    have HC1 := Lib.hid (HC.out.grow hgr)
    clear hr hgr
    go_wp2_with fail
    refine (pick_some HR.out HNL.out (by have := HL.out; omega) z hz).mono ?_
    rintro e w' ⟨rfl, rfl⟩
    rw [HB.out]
    go_wp2_with fail
    refine (cback_any HC1.out hn HG.out hk b HBN.out).mono ?_
    intro e w2 hpost
    obtain ⟨he, hst⟩ := hpost
    subst he
    have HST := Lib.hid hst
    clear hst
    go_wp2_with fail
    go_ret3
    rw [HP.out]
    refine ⟨by rw [if_neg HNL.out, decide_eq_false HNL.out, HB.out]; rfl, ?_⟩
    rw [HW.out, if_neg HNL.out, HB.out]
    exact Stands.after HGR.out HST.out
#print axioms wb_ok
end Go.Proofs.Ytmfofobmceflmaa
