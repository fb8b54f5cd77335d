/- A transaction, plainly: what each call makes of it; the calls, whatever its state. -/
import Derived.Test.YtnogajnoghjmhaaT13
set_option linter.unusedVariables false
set_option linter.unusedSimpArgs false
namespace Go.Proofs.Ytnogajnoghjmhaa
open Go.RowKit Go.Maps

inductive TS where
  | c (s : PS)
  | o (s q : PS) (cr rv : Int) (did : List (Int × Unit))
def TS.now : TS → PS
  | .c s => s
  | .o s _ _ _ _ => s
def TS.isO : TS → Bool
  | .c _ => false
  | .o _ _ _ _ _ => true
def TIs (w : World) (B N seq : Nat) (ids : List Nat) : TS → Prop
  | .c s => ∃ a : PA, ids = B :: a.ids ∧ TC w B a N seq s
  | .o s q cr rv did => ∃ (a : PA) (tb : Nat) (o : PA), ids = B :: a.ids ++ tb :: o.ids ∧ TO w B a tb o N seq cr rv s q did ∧ 0 ≤ cr ∧ 0 ≤ rv ∧ IntOk rv
theorem TIs.tv {w : World} {B N seq : Nat} {ids : List Nat} {t : TS} (h : TIs w B N seq ids t) : ∃ a, TV w B a N seq t.isO t.now := by
  cases t with
  | c s => obtain ⟨a, _, h⟩ := h; exact ⟨a, h.tv⟩
  | o s q cr rv did => obtain ⟨a, tb, o, _, h, _⟩ := h; exact ⟨a, h.tv⟩
theorem TIs.kept {w w' : World} {B N seq : Nat} {ids : List Nat} {t : TS} (h : TIs w B N seq ids t) {T : List Nat} (ht : Touch T w w') (hn : ∀ i ∈ ids, i ∉ T) : TIs w' B N seq ids t := by
  cases t with
  | c s => obtain ⟨a, rfl, h⟩ := h; exact ⟨a, rfl, h.kept ht hn⟩
  | o s q cr rv did => obtain ⟨a, tb, o, rfl, h, r⟩ := h; exact ⟨a, tb, o, rfl, h.kept ht hn, r⟩
theorem TIs.mono {w : World} {B N M seq : Nat} {ids : List Nat} {t : TS} (h : TIs w B N seq ids t) (hm : N ≤ M) : TIs w B M seq ids t := by
  cases t with
  | c s => obtain ⟨a, rfl, h⟩ := h; exact ⟨a, rfl, h.mono hm⟩
  | o s q cr rv did => obtain ⟨a, tb, o, rfl, h, r⟩ := h; exact ⟨a, tb, o, rfl, h.mono hm, r⟩
theorem TIs.lt {w : World} {B N seq : Nat} {ids : List Nat} {t : TS} (h : TIs w B N seq ids t) : ∀ i ∈ ids, i < w.heap.size := by
  cases t with
  | c s =>
    obtain ⟨a, rfl, h⟩ := h
    intro i hi
    rcases List.mem_cons.1 hi with rfl | hi
    · exact (Array.getElem?_eq_some_iff.1 h.obj).1
    · exact h.p.lt i hi
  | o s q cr rv did =>
    obtain ⟨a, tb, o, rfl, h, r⟩ := h
    intro i hi
    rcases List.mem_append.1 hi with hi | hi
    · rcases List.mem_cons.1 hi with rfl | hi
      · exact (Array.getElem?_eq_some_iff.1 h.obj).1
      · exact h.p.lt i hi
    · rcases List.mem_cons.1 hi with rfl | hi
      · exact h.t.lt
      · exact h.q.lt i hi
/-! ### what each call makes of it -/
def beginT (t : TS) (c r : Int) : Int × TS :=
  match t with
  | .c s => if c < 0 ∨ r < 0 then (2, .c s) else (0, .o s s c r [])
  | .o .. => (141, t)
def endT (t : TS) : Int × TS :=
  match t with
  | .c _ => (141, t)
  | .o s _ _ _ _ => (0, .c s)
def undoT (t : TS) : Int × TS :=
  match t with
  | .c _ => (141, t)
  | .o _ q _ _ _ => (0, .c q)
def orderT (t : TS) (b : Int) : Int × TS :=
  match t with
  | .c _ => (141, t)
  | .o s q cr rv did => if b < 0 then (2, t) else (0, .o ⟨s.ch, insA s.od b (), s.fr, s.rv⟩ q cr rv did)
def forgetT (t : TS) (b : Int) (r : Bool) : Int × TS :=
  match t with
  | .c _ => (141, t)
  | .o s q cr rv did => if b < 0 then (2, t) else if rv = 0 then (140, t) else (0, .o ⟨delA s.ch b, delA s.od b, insA s.fr b (), if r then insS s.rv b else s.rv⟩ q cr (rv - 1) did)
def putT (t : TS) (b : Int) (x : Blk) : Int × TS :=
  match t with
  | .c _ => (141, t)
  | .o s q cr rv did => if b < 0 then (2, t) else if b ∉ keysA did ∧ cr ≤ (did.length : Int) then (140, t) else (0, .o ⟨insA s.ch b x, s.od, delA s.fr b, delS s.rv b⟩ q cr rv (insA did b ()))
/-- behind a call -/
def DPost (B N seq : Nat) (ids : List Nat) (r : Int × TS) (w : World) (e : Ending) (w' : World) : Prop :=
  e = .returned (.int .i64 r.1) ∧ ∃ ids', TIs w' B (N + 1) seq ids' r.2 ∧ Touch ids w w' ∧ ∀ i ∈ ids', i ∈ ids ∨ w.heap.size ≤ i
theorem DPost.same {B N seq : Nat} {ids : List Nat} {t : TS} {w : World} (h : TIs w B N seq ids t) {z : Int} {w' : World} (hw : Touch [] w w') : DPost B N seq ids (z, t) w (.returned (.int .i64 z)) w' :=
  ⟨rfl, ids, (h.kept hw (by simp)).mono (by omega), (Touch.refl ids w).trans hw (by simp), fun i hi => .inl hi⟩
theorem begin_any {w : World} {B N seq : Nat} {ids : List Nat} {t : TS} (h : TIs w B N seq ids t) (hN : N ≤ 100000) (hs : seq < 4294967296) {c r : Int} (hr : IntOk r) : Calls Try.prog 9 #[.pointer (some ⟨B, 0, none⟩), .int .i64 c, .int .i64 r] w (DPost B N seq ids (beginT t c r) w) := by
  have hh := h
  cases t with
  | c s =>
    obtain ⟨a, rfl, h⟩ := h
    unfold beginT
    dsimp only
    by_cases hc : c < 0 ∨ r < 0
    · rw [if_pos hc]
      refine (begin_arg (cell_at h.obj 0) (cell_at h.obj 5) hc).mono ?_
      rintro e w' ⟨rfl, rfl⟩
      exact DPost.same hh (Touch.refl _ _)
    · rw [if_neg hc]
      refine (begin_ok h hN hs (by omega) (by omega)).mono ?_
      rintro e w' ⟨rfl, tb, o, hT, ht, hi⟩
      refine ⟨rfl, _, ⟨a, tb, o, rfl, hT.mono (by omega), by omega, by omega, hr⟩, ht.into (by simp), fun i hm => ?_⟩
      rcases List.mem_append.1 hm with hm | hm
      · exact .inl hm
      · exact .inr (hi i hm)
  | o s q cr rv did =>
    obtain ⟨a, tb, o, rfl, h, h0, h1, h2⟩ := h
    refine (begin_open (cell_at h.obj 0) (cell_at h.obj 5) c r).mono ?_
    rintro e w' ⟨rfl, rfl⟩
    exact DPost.same hh (Touch.refl _ _)
theorem end_any {w : World} {B N seq : Nat} {ids : List Nat} {t : TS} (h : TIs w B N seq ids t) : Calls Try.prog 12 #[.pointer (some ⟨B, 0, none⟩)] w (DPost B N seq ids (endT t) w) := by
  have hh := h
  cases t with
  | c s =>
    obtain ⟨a, rfl, h⟩ := h
    refine (end_err (z := 141) (by decide) h.handle).mono ?_
    rintro e w' ⟨rfl, rfl⟩
    exact DPost.same hh (Touch.refl _ _)
  | o s q cr rv did =>
    obtain ⟨a, tb, o, rfl, h, h0, h1, h2⟩ := h
    refine (end_ok h).mono ?_
    rintro e w' ⟨rfl, hT, ht⟩
    exact ⟨rfl, _, ⟨a, rfl, hT.mono (by omega)⟩, ht.into (by simp), fun i hi => .inl (List.mem_append_left _ hi)⟩
theorem undo_any {w : World} {B N seq : Nat} {ids : List Nat} {t : TS} (h : TIs w B N seq ids t) : Calls Try.prog 26 #[.pointer (some ⟨B, 0, none⟩)] w (DPost B N seq ids (undoT t) w) := by
  have hh := h
  cases t with
  | c s =>
    obtain ⟨a, rfl, h⟩ := h
    refine (undo_err (z := 141) (by decide) h.handle).mono ?_
    rintro e w' ⟨rfl, rfl⟩
    exact DPost.same hh (Touch.refl _ _)
  | o s q cr rv did =>
    obtain ⟨a, tb, o, rfl, h, h0, h1, h2⟩ := h
    refine (undo_ok h).mono ?_
    rintro e w' ⟨rfl, hT, ht⟩
    refine ⟨rfl, _, ⟨o, rfl, hT.mono (by omega)⟩, ht.into (by simp), fun i hi => .inl ?_⟩
    rcases List.mem_cons.1 hi with rfl | hi
    · simp
    · exact List.mem_append_right _ (List.mem_cons_of_mem _ hi)
theorem TC.ask {w : World} {B : Nat} {a : PA} {N seq : Nat} {s : PS} (h : TC w B a N seq s) (b : Int) : AskIs (.pointer (some ⟨B, 0, none⟩)) b 141 w := ask_err (by decide) h.handle
theorem ids_sub {B tb : Nat} {a o : PA} : ∀ i ∈ B :: tb :: a.ids, i ∈ B :: a.ids ++ tb :: o.ids := by
  intro i hi
  rcases List.mem_cons.1 hi with rfl | hi
  · exact List.mem_append_left _ (by simp)
  rcases List.mem_cons.1 hi with rfl | hi
  · exact List.mem_append_right _ (by simp)
  · exact List.mem_append_left _ (List.mem_cons_of_mem _ hi)
theorem order_any {w : World} {B N seq : Nat} {ids : List Nat} {t : TS} (h : TIs w B N seq ids t) (hN : N ≤ 100000) {b : Int} (hb : IntOk b) : Calls Try.prog 17 #[.pointer (some ⟨B, 0, none⟩), .int .i64 b] w (DPost B N seq ids (orderT t b) w) := by
  have hh := h
  cases t with
  | c s =>
    obtain ⟨a, rfl, h⟩ := h
    refine (order_err (z := 141) (by decide) (h.ask b)).mono ?_
    rintro e w' ⟨rfl, rfl⟩
    exact DPost.same hh (Touch.refl _ _)
  | o s q cr rv did =>
    obtain ⟨a, tb, o, rfl, h, h0, h1, h2⟩ := h
    unfold orderT
    dsimp only
    by_cases hc : b < 0
    · rw [if_pos hc]
      refine (order_err (z := 2) (by decide) (by have := h.ask b; rwa [if_pos hc] at this)).mono ?_
      rintro e w' ⟨rfl, rfl⟩
      exact DPost.same hh (Touch.refl _ _)
    · rw [if_neg hc]
      refine (order_ok h hb (by omega) hN).mono ?_
      rintro e w' ⟨rfl, hT, ht⟩
      exact ⟨rfl, _, ⟨a, tb, o, rfl, hT, h0, h1, h2⟩, ht.into ids_sub, fun i hi => .inl hi⟩
theorem forget_any {w : World} {B N seq : Nat} {ids : List Nat} {t : TS} (h : TIs w B N seq ids t) (hN : N ≤ 100000) (hs : seq < 4294967296) {b : Int} (hb : IntOk b) (r : Bool) : Calls Try.prog 18 #[.pointer (some ⟨B, 0, none⟩), .int .i64 b, .bool r] w (DPost B N seq ids (forgetT t b r) w) := by
  have hh := h
  cases t with
  | c s =>
    obtain ⟨a, rfl, h⟩ := h
    refine (forget_err (z := 141) (by decide) (h.ask b) r).mono ?_
    rintro e w' ⟨rfl, rfl⟩
    exact DPost.same hh (Touch.refl _ _)
  | o s q cr rv did =>
    obtain ⟨a, tb, o, rfl, h, h0, h1, h2⟩ := h
    unfold forgetT
    dsimp only
    by_cases hc : b < 0
    · rw [if_pos hc]
      refine (forget_err (z := 2) (by decide) (by have := h.ask b; rwa [if_pos hc] at this) r).mono ?_
      rintro e w' ⟨rfl, rfl⟩
      exact DPost.same hh (Touch.refl _ _)
    · rw [if_neg hc]
      by_cases hr : rv = 0
      · rw [if_pos hr]
        refine (forget_full h hb (by omega) hr r).mono ?_
        rintro e w' ⟨rfl, rfl⟩
        exact DPost.same hh (Touch.refl _ _)
      · rw [if_neg hr]
        have h3 : IntOk (rv - 1) := ⟨by omega, by have := h2.2; omega⟩
        cases r
        · refine (forget_no h hb (by omega) hN hs (by omega) h2).mono ?_
          rintro e w' ⟨rfl, hT, ht⟩
          exact ⟨rfl, _, ⟨a, tb, o, rfl, hT, h0, by omega, h3⟩, ht.into ids_sub, fun i hi => .inl hi⟩
        · refine (forget_yes h hb (by omega) hN hs (by omega) h2).mono ?_
          rintro e w' ⟨rfl, hT, ht⟩
          exact ⟨rfl, _, ⟨a, tb, o, rfl, hT, h0, by omega, h3⟩, ht.into ids_sub, fun i hi => .inl hi⟩
theorem put_any {w : World} {B N seq : Nat} {ids : List Nat} {t : TS} (h : TIs w B N seq ids t) (hN : N ≤ 100000) (hs : seq < 4294967296) {b : Int} (hb : IntOk b) {x : Blk} (hx : x.length = 256) : Calls Try.prog 10 #[.pointer (some ⟨B, 0, none⟩), .int .i64 b, .agg (bc x).toArray] w (DPost B N seq ids (putT t b x) w) := by
  have hh := h
  cases t with
  | c s =>
    obtain ⟨a, rfl, h⟩ := h
    refine (put_err (z := 141) (by decide) (fun W hW => (h.kept hW (by simp)).ask b) hx).mono ?_
    rintro e w' ⟨rfl, ht⟩
    exact DPost.same hh ht
  | o s q cr rv did =>
    obtain ⟨a, tb, o, rfl, h, h0, h1, h2⟩ := h
    unfold putT
    dsimp only
    by_cases hc : b < 0
    · rw [if_pos hc]
      refine (put_err (z := 2) (by decide) (fun W hW => by have := (h.kept hW (by simp)).ask b; rwa [if_pos hc] at this) hx).mono ?_
      rintro e w' ⟨rfl, ht⟩
      exact DPost.same hh ht
    · rw [if_neg hc]
      by_cases hm : b ∈ keysA did
      · rw [if_neg (fun c => c.1 hm)]
        refine (put_old h hb (by omega) hN hs hx hm).mono ?_
        rintro e w' ⟨rfl, hT, ht⟩
        exact ⟨rfl, _, ⟨a, tb, o, rfl, hT, h0, h1, h2⟩, ht.into (fun i hi => ids_sub i (List.mem_cons_of_mem _ hi)), fun i hi => .inl hi⟩
      · by_cases hl : cr ≤ (did.length : Int)
        · rw [if_pos ⟨hm, hl⟩]
          refine (put_full h hb (by omega) hx hm hl).mono ?_
          rintro e w' ⟨rfl, ht⟩
          exact DPost.same hh ht
        · rw [if_neg (fun c => hl c.2)]
          refine (put_new h hb (by omega) hN hs hx hm (by omega)).mono ?_
          rintro e w' ⟨rfl, hT, ht⟩
          exact ⟨rfl, _, ⟨a, tb, o, rfl, hT, h0, h1, h2⟩, ht.into (fun i hi => ids_sub i (List.mem_cons_of_mem _ hi)), fun i hi => .inl hi⟩
#print axioms put_any
end Go.Proofs.Ytnogajnoghjmhaa
