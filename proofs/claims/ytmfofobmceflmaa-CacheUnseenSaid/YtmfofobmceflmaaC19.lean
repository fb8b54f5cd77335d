/- The law CacheUnseen: the plain side; each act. -/
import Derived.Test.YtmfofobmceflmaaC17
set_option linter.unusedVariables false
set_option linter.unusedSimpArgs false
namespace Go.Proofs.Ytmfofobmceflmaa
open Go.RowKit Go.Maps

theorem back_isDirty' (s : CS) (c i : Int) : isDirty (s.back c).f i = if i = c then false else isDirty s.f i := by
  by_cases hd : ∃ x, s.f c = some (x, true)
  · obtain ⟨x, hx⟩ := hd
    rw [back_dirty hx]; exact isDirty_put i
  · rw [back_idle (fun x hx => hd ⟨x, hx⟩)]
    by_cases e : i = c
    · rw [if_pos e, e]
      unfold isDirty
      cases hf : s.f c with
      | none => rfl
      | some y =>
        obtain ⟨x, t⟩ := y
        cases t
        · rfl
        · exact absurd ⟨x, hf⟩ hd
    · rw [if_neg e]
theorem backs_isDirty : ∀ (zs : List Int) (s : CS) (i : Int), isDirty (s.backs zs).f i = if i ∈ zs then false else isDirty s.f i := by
  intro zs
  induction zs with
  | nil => intro s i; simp [CS.backs]
  | cons z zs ih =>
    intro s i
    show isDirty ((s.back z).backs zs).f i = _
    rw [ih, back_isDirty']
    by_cases e : i ∈ zs
    · rw [if_pos e, if_pos (by simp [e])]
    · rw [if_neg e]
      by_cases e2 : i = z
      · rw [if_pos e2, if_pos (by simp [e2])]
      · rw [if_neg e2, if_neg (by simp [e, e2])]
theorem back_lastlen (s : CS) (b : Int) : (s.back b).d.last.length = s.d.last.length := by
  unfold CS.back
  split
  · show (s.d.last.set _ _).length = _; rw [List.length_set]
  · rfl
theorem Tells.backs {N : Nat} {m : List Blk} : ∀ (zs : List Int) {s : CS}, Tells N m s → s.d.last.length = N → (∀ z ∈ zs, 0 ≤ z ∧ z < N) → Tells N m (s.backs zs) := by
  intro zs
  induction zs with
  | nil => intro s h _ _; exact h
  | cons z zs ih =>
    intro s h hl hz
    have h1 := hz z (by simp)
    obtain ⟨b, rfl⟩ : ∃ b : Nat, z = (b : Int) := ⟨z.toNat, by omega⟩
    exact ih (h.back b (by omega) hl) (by rw [back_lastlen]; exact hl) (fun y hy => hz y (by simp [hy]))
theorem Tells.sync {N : Nat} {m : List Blk} {s : CS} (h : Tells N m s) (hs : s.d.safe.length = N) (hl : s.d.last.length = N) : Tells N m s.sync := by
  have h1 := h.backs (selL s.d.safe.length (isDirty s.f)) hl (fun z hz => by rw [← hs]; exact (selL_mem.1 hz).1)
  exact { h1 with has := h1.has, disk := h1.disk }
theorem CGood.sync {N k : Nat} {s : CS} (h : CGood N k s) : CGood N (k + N + 1) s.sync := by
  have h1 := h.backs (selL s.d.safe.length (isDirty s.f)) (fun z hz => by rw [← h.safe]; exact (selL_mem.1 hz).1)
  have hl := selL_length s.d.safe.length (isDirty s.f)
  rw [h.safe] at hl
  rw [h.safe] at h1
  have h2 := CGood.flushed (s' := s.sync) h1 (by unfold CS.sync; rw [h.safe])
  exact h2.more (by omega)
theorem sync_dirty {N k : Nat} {s : CS} (h : CGood N k s) : selL N (isDirty s.sync.f) = [] := by
  apply List.eq_nil_iff_forall_not_mem.2
  intro i hi
  have hm := selL_mem.1 hi
  have : isDirty (s.backs (selL s.d.safe.length (isDirty s.f))).f i = true := hm.2
  rw [backs_isDirty, h.safe] at this
  by_cases e : i ∈ selL N (isDirty s.f)
  · rw [if_pos e] at this; cases this
  · rw [if_neg e] at this
    exact e (selL_mem.2 ⟨hm.1, this⟩)
theorem sync_safe {N k : Nat} {m : List Blk} {s : CS} (h : CGood N k s) (ht : Tells N m s) (hl : s.d.last.length = N) : s.sync.d.safe = m := by
  have h1 := h.backs (selL s.d.safe.length (isDirty s.f)) (fun z hz => by rw [← h.safe]; exact (selL_mem.1 hz).1)
  have h2 := ht.sync h.safe hl
  have e1 : s.sync.d.safe = s.sync.d.last := h1.last.symm
  rw [e1]
  have hll : s.sync.d.last.length = N := by rw [← e1]; exact (h.sync).safe
  apply List.ext_getElem?
  intro i
  by_cases hi : i < N
  · refine h2.disk i hi ?_
    cases hd : isDirty s.sync.f i
    · rfl
    · have : (i : Int) ∈ selL N (isDirty s.sync.f) := selL_mem.2 ⟨by omega, hd⟩
      rw [sync_dirty h] at this; cases this
  · rw [List.getElem?_eq_none (by omega), List.getElem?_eq_none (by rw [ht.len]; omega)]
/-- an act that came in -/
structure AU where
  k : Int
  b : Int
  f : Nat
def ActU (w : World) (x : Addr) (p : AU) : Prop := ∃ vk, w.cell? x = some (.int .u8 p.k) ∧ w.cell? (x.add 1) = some (.int .i64 p.b) ∧ w.cell? (x.add 2) = some (.int .u32 (p.f : Int)) ∧ w.cell? (x.add 3) = some vk ∧ vk.oneCell' = true ∧ (0 ≤ p.k ∧ p.k < 256) ∧ IntOk p.b ∧ p.f < 4294967296
def ActsU (w : World) (v : Value) (l : List AU) : Prop := ∃ a cap, v = .slice a l.length cap ∧ ∀ i p, l[i]? = some p → ∃ y : Addr, a = some y ∧ y.block < w.heap.size ∧ ActU w (y.add (i * 4)) p
/-- an act was done: the cache stands, and tells the same -/
def UPost (C B : Nat) (U : List Nat) (n N : Nat) (m : List Blk) (w : World) (e : Ending) (w' : World) : Prop := (∃ v, e = .returned v) ∧ ∃ s', Stands C B U (n + 66) s' w w' ∧ CGood N (n + 66) s' ∧ Tells N m s'
section
variable {w : World} {C B : Nat} {U : List Nat} {n N : Nat} {m : List Blk} {s : CS}
theorem ask_cases (hg : CGood N n s) (b : Int) : (∃ c : Nat, b = (c : Int) ∧ c < N ∧ s.askI b = 0) ∨ s.askI b = 2 := by
  by_cases h : 0 ≤ b ∧ b < N
  · exact .inl ⟨b.toNat, by omega, by omega, if_pos (by rw [hg.safe]; exact h)⟩
  · exact .inr (if_neg (by rw [hg.safe]; exact h))
theorem UPost.same (h : IsCache w C B U n s) (hg : CGood N n s) (ht : Tells N m s) {v : Value} {w' : World} (hgr : Grow w w') : UPost C B U n N m w (.returned v) w' := ⟨⟨v, rfl⟩, s, (Stands.of_grow h hgr).mono (by omega), hg.more (by omega), ht⟩
theorem uread (h : IsCache w C B U n s) (hn : n ≤ 100000) (hg : CGood N n s) (ht : Tells N m s) (b : Int) : Calls Try.prog 18 #[.pointer (some ⟨C, 0, none⟩), .int .i64 b] w (UPost C B U n N m w) := by
  rcases ask_cases hg b with ⟨c, rfl, hc, _⟩ | h2
  · have hcm : c < m.length := by rw [ht.len]; exact hc
    refine (cread_any h (by omega) hg ht c hc (x := m[c]) (by simp [hcm])).mono ?_
    rintro e w' ⟨rfl, s', h1, h2, h3, h4, _⟩
    exact ⟨⟨_, rfl⟩, s', h1.mono (by omega), (hg.same h2).more (by omega), h4⟩
  · refine (cread_no h b h2).mono ?_
    rintro e w' ⟨rfl, hgr⟩
    exact UPost.same h hg ht hgr
theorem uback (h : IsCache w C B U n s) (hn : n ≤ 100000) (hg : CGood N n s) (ht : Tells N m s) (hl : s.d.last.length = N) (b : Int) : Calls Try.prog 25 #[.pointer (some ⟨C, 0, none⟩), .int .i64 b] w (UPost C B U n N m w) := by
  rcases ask_cases hg b with ⟨c, rfl, hc, _⟩ | h2
  · refine (cback_any h (by omega) hg hn c hc).mono ?_
    rintro e w' ⟨rfl, h1⟩
    exact ⟨⟨_, rfl⟩, _, h1.mono (by omega), (hg.back c hc).more (by omega), ht.back c hc hl⟩
  · refine (cback_no h b h2).mono ?_
    rintro e w' ⟨rfl, rfl⟩
    exact UPost.same h hg ht (Grow.refl _)
theorem Tells.pin (ht : Tells N m s) (p : Int → Bool) : Tells N m { s with p := p } := { ht with has := ht.has, disk := ht.disk }
theorem upin (h : IsCache w C B U n s) (hn : n ≤ 100000) (hg : CGood N n s) (ht : Tells N m s) (b : Int) (hb : IntOk b) (on : Bool) : Calls Try.prog 19 #[.pointer (some ⟨C, 0, none⟩), .int .i64 b, .bool on] w (UPost C B U n N m w) := by
  rcases ask_cases hg b with ⟨c, rfl, hc, h0⟩ | h2
  · cases on
    · refine (cpin_off h (c : Int) h0 hb).mono ?_
      rintro e w' ⟨⟨v, rfl⟩, h1, h2⟩
      exact ⟨⟨_, rfl⟩, _, (Stands.of_touch h1 h2).mono (by omega), CGood.more (CGood.same (s' := { s with p := delP s.p c }) hg rfl) (by omega), ht.pin _⟩
    · refine (cpin_on h (by omega) (c : Int) h0 hb).mono ?_
      rintro e w' ⟨⟨v, rfl⟩, h1, h2⟩
      exact ⟨⟨_, rfl⟩, _, (Stands.of_touch h1 h2).mono (by omega), CGood.more (CGood.same (s' := { s with p := putP s.p c }) hg rfl) (by omega), ht.pin _⟩
  · refine (cpin_no h b on h2).mono ?_
    rintro e w' ⟨⟨v, rfl⟩, rfl⟩
    exact UPost.same h hg ht (Grow.refl _)
theorem uwb (h : IsCache w C B U n s) (hn : n ≤ 100000) (hg : CGood N n s) (ht : Tells N m s) (hl : s.d.last.length = N) (b : Int) (hb : IntOk b) : Calls Try.prog 15 #[.pointer (some ⟨C, 0, none⟩), .int .i64 b] w (UPost C B U n N m w) := by
  refine (wb_ok h (by omega) hg hn b hb.2).mono ?_
  rintro e w' ⟨rfl, h1⟩
  exact ⟨⟨_, rfl⟩, _, h1.mono (by omega), (hg.wb b).more (by omega), ht.wb hg.safe hl b⟩
theorem uev (h : IsCache w C B U n s) (hg : CGood N n s) (ht : Tells N m s) (b : Int) (hb : IntOk b) : Calls Try.prog 22 #[.pointer (some ⟨C, 0, none⟩), .int .i64 b] w (UPost C B U n N m w) := by
  refine (ev_ok h b hb.2).mono ?_
  rintro e w' ⟨rfl, h1⟩
  exact ⟨⟨_, rfl⟩, _, h1.mono (by omega), (hg.ev b).more (by omega), ht.ev b⟩
theorem usync (h : IsCache w C B U n s) (hn : n ≤ 80000) (hN : N ≤ 64) (hg : CGood N n s) (ht : Tells N m s) (hl : s.d.last.length = N) : Calls Try.prog 26 #[.pointer (some ⟨C, 0, none⟩)] w (UPost C B U n N m w) := by
  refine (sync_ok h (by omega) hg (by omega)).mono ?_
  rintro e w' ⟨rfl, h1⟩
  exact ⟨⟨_, rfl⟩, _, h1.mono (by omega), hg.sync.more (by omega), ht.sync hg.safe hl⟩
end
#print axioms usync
end Go.Proofs.Ytmfofobmceflmaa
