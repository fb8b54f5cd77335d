/- A transaction that lives beside other memory. -/
import Derived.Test.YtnogajnoghjmhaaT15
set_option linter.unusedVariables false
set_option linter.unusedSimpArgs false
namespace Go.Proofs.Ytnogajnoghjmhaa
open Go.RowKit Go.Maps

/-- a step that spares these blocks -/
def Spare (P : List Nat) (w w' : World) : Prop := ∃ T, Touch T w w' ∧ ∀ i ∈ T, i ∉ P
theorem Spare.refl (P : List Nat) (w : World) : Spare P w w := ⟨[], Touch.refl _ _, by simp⟩
theorem Spare.trans {P : List Nat} {a b c : World} (h : Spare P a b) (h' : Spare P b c) : Spare P a c := by
  obtain ⟨T, h1, h2⟩ := h
  obtain ⟨U, h3, h4⟩ := h'
  refine ⟨T ++ U, (h1.into (fun i hi => List.mem_append_left _ hi)).trans (h3.into (T := T ++ U) (fun i hi => List.mem_append_right _ hi)) (fun i hi => .inl hi), fun i hi => ?_⟩
  rcases List.mem_append.1 hi with hi | hi
  · exact h2 i hi
  · exact h4 i hi
theorem Spare.sub {P Q : List Nat} {a b : World} (h : Spare P a b) (hs : ∀ i ∈ Q, i ∈ P) : Spare Q a b := by
  obtain ⟨T, h1, h2⟩ := h
  exact ⟨T, h1, fun i hi hm => h2 i hi (hs i hm)⟩
theorem Spare.grow {P : List Nat} {a b : World} (h : Grow a b) : Spare P a b := ⟨[], Touch.of_below (S := []) h, by simp⟩
theorem Spare.size {P : List Nat} {a b : World} (h : Spare P a b) : a.heap.size ≤ b.heap.size := by obtain ⟨T, h1, _⟩ := h; exact h1.size
theorem Spare.row {P : List Nat} {a b : World} (h : Spare P a b) {e sz : Nat} {v : Value} {l : List (List Value)} (hr : Row a e sz v l) (hv : ∀ g, v.ownBlock = some g → g ∈ P) : Row b e sz v l := by
  obtain ⟨T, h1, h2⟩ := h
  exact Row.kept hr h1 (fun g e hm => h2 g hm (hv g e))
structure Live (w0 : World) (P : List Nat) (B N seq : Nat) (t : TS) (w : World) : Prop where
  ex : ∃ ids, TIs w B N seq ids t ∧ ∀ i ∈ ids, w0.heap.size ≤ i ∧ i ∉ P
  grow : Grow w0 w
  pl : ∀ g ∈ P, g < w.heap.size
theorem Live.tv {w0 : World} {P : List Nat} {B N seq : Nat} {t : TS} {w : World} (h : Live w0 P B N seq t w) : ∃ a, TV w B a N seq t.isO t.now := by
  obtain ⟨ids, h1, _⟩ := h.ex
  exact h1.tv
theorem Live.mono {w0 : World} {P : List Nat} {B N M seq : Nat} {t : TS} {w : World} (h : Live w0 P B N seq t w) (hm : N ≤ M) : Live w0 P B M seq t w := by
  obtain ⟨ids, h1, h2⟩ := h.ex
  exact ⟨⟨ids, h1.mono hm, h2⟩, h.grow, h.pl⟩
theorem Live.later {w0 : World} {P : List Nat} {B N seq : Nat} {t : TS} {w w' : World} (h : Live w0 P B N seq t w) (hg : Grow w w') : Live w0 P B N seq t w' := by
  obtain ⟨ids, h1, h2⟩ := h.ex
  exact ⟨⟨ids, h1.kept (Touch.of_below (S := []) hg) (by simp), h2⟩, Grow.trans h.grow hg, fun g hm => Nat.lt_of_lt_of_le (h.pl g hm) hg.size⟩
/-- a step that only turns blocks that are spared -/
theorem Live.beside {w0 : World} {P : List Nat} {B N seq : Nat} {t : TS} {w w' : World} (h : Live w0 P B N seq t w) {S : List Nat} (ht : Touch S w w') (hs : ∀ i ∈ S, i ∈ P ∧ w0.heap.size ≤ i) : Live w0 P B N seq t w' := by
  obtain ⟨ids, h1, h2⟩ := h.ex
  exact ⟨⟨ids, h1.kept ht (fun i hi hm => (h2 i hi).2 (hs i hm).1), h2⟩, Below.trans h.grow (ht.below h.grow.size (fun j hj => (hs j hj).2)), fun g hm => Nat.lt_of_lt_of_le (h.pl g hm) ht.size⟩
/-- blocks that are new may be spared -/
theorem Live.spare {w0 : World} {P Q : List Nat} {B N seq : Nat} {t : TS} {w w' : World} (h : Live w0 P B N seq t w) (hg : Grow w w') (hq : ∀ g ∈ Q, g ∈ P ∨ w.heap.size ≤ g ∧ g < w'.heap.size) : Live w0 Q B N seq t w' := by
  obtain ⟨ids, h1, h2⟩ := h.ex
  have hl := h1.lt
  refine ⟨⟨ids, h1.kept (Touch.of_below (S := []) hg) (by simp), fun i hi => ⟨(h2 i hi).1, fun hm => ?_⟩⟩, Grow.trans h.grow hg, fun g hm => ?_⟩
  · rcases hq i hm with hq | hq
    · exact (h2 i hi).2 hq
    · have := hl i hi; omega
  · rcases hq g hm with hq | hq
    · exact Nat.lt_of_lt_of_le (h.pl g hq) hg.size
    · exact hq.2
def LPost (w0 : World) (P : List Nat) (B N seq : Nat) (r : Int × TS) (w : World) (e : Ending) (w' : World) : Prop :=
  e = .returned (.int .i64 r.1) ∧ Live w0 P B (N + 1) seq r.2 w' ∧ Spare P w w'
theorem Live.step {w0 : World} {P : List Nat} {B N seq : Nat} {w : World} {r : Int × TS} {e : Ending} {w' : World} {ids : List Nat} (hg : Grow w0 w) (hp : ∀ g ∈ P, g < w.heap.size) (hi : ∀ i ∈ ids, w0.heap.size ≤ i ∧ i ∉ P) (hd : DPost B N seq ids r w e w') : LPost w0 P B N seq r w e w' := by
  obtain ⟨he, ids', h1, h2, h3⟩ := hd
  refine ⟨he, ⟨⟨ids', h1, fun i hm => ?_⟩, Below.trans hg (h2.below hg.size (fun j hj => (hi j hj).1)), fun g hm => Nat.lt_of_lt_of_le (hp g hm) h2.size⟩, ⟨ids, h2, fun i hm => (hi i hm).2⟩⟩
  rcases h3 i hm with h | h
  · exact hi i h
  · exact ⟨Nat.le_trans hg.size h, fun hq => by have := hp i hq; omega⟩
section
variable {w0 : World} {P : List Nat} {B N seq : Nat} {t : TS} {w : World} (h : Live w0 P B N seq t w)
include h
theorem Live.begin_ (hN : N ≤ 100000) (hs : seq < 4294967296) {c r : Int} (hr : IntOk r) : Calls Try.prog 9 #[.pointer (some ⟨B, 0, none⟩), .int .i64 c, .int .i64 r] w (LPost w0 P B N seq (beginT t c r) w) := by
  obtain ⟨ids, h1, h2⟩ := h.ex
  exact (begin_any h1 hN hs hr).mono fun e w' hd => Live.step h.grow h.pl h2 hd
theorem Live.end_ : Calls Try.prog 12 #[.pointer (some ⟨B, 0, none⟩)] w (LPost w0 P B N seq (endT t) w) := by
  obtain ⟨ids, h1, h2⟩ := h.ex
  exact (end_any h1).mono fun e w' hd => Live.step h.grow h.pl h2 hd
theorem Live.undo_ : Calls Try.prog 26 #[.pointer (some ⟨B, 0, none⟩)] w (LPost w0 P B N seq (undoT t) w) := by
  obtain ⟨ids, h1, h2⟩ := h.ex
  exact (undo_any h1).mono fun e w' hd => Live.step h.grow h.pl h2 hd
theorem Live.order_ (hN : N ≤ 100000) {b : Int} (hb : IntOk b) : Calls Try.prog 17 #[.pointer (some ⟨B, 0, none⟩), .int .i64 b] w (LPost w0 P B N seq (orderT t b) w) := by
  obtain ⟨ids, h1, h2⟩ := h.ex
  exact (order_any h1 hN hb).mono fun e w' hd => Live.step h.grow h.pl h2 hd
theorem Live.forget_ (hN : N ≤ 100000) (hs : seq < 4294967296) {b : Int} (hb : IntOk b) (r : Bool) : Calls Try.prog 18 #[.pointer (some ⟨B, 0, none⟩), .int .i64 b, .bool r] w (LPost w0 P B N seq (forgetT t b r) w) := by
  obtain ⟨ids, h1, h2⟩ := h.ex
  exact (forget_any h1 hN hs hb r).mono fun e w' hd => Live.step h.grow h.pl h2 hd
theorem Live.put_ (hN : N ≤ 100000) (hs : seq < 4294967296) {b : Int} (hb : IntOk b) {x : Blk} (hx : x.length = 256) : Calls Try.prog 10 #[.pointer (some ⟨B, 0, none⟩), .int .i64 b, .agg (bc x).toArray] w (LPost w0 P B N seq (putT t b x) w) := by
  obtain ⟨ids, h1, h2⟩ := h.ex
  exact (put_any h1 hN hs hb hx).mono fun e w' hd => Live.step h.grow h.pl h2 hd
theorem Live.do_ (hN : N ≤ 100000) (hs : seq < 4294967296) {x : AP} (hx : x.ok) : Calls Try.prog 25 #[.pointer (some ⟨B, 0, none⟩), .agg x.cells.toArray] w (LPost w0 P B N seq (doT t x) w) := by
  obtain ⟨ids, h1, h2⟩ := h.ex
  exact (do_any h1 hN hs hx).mono fun e w' hd => Live.step h.grow h.pl h2 hd
theorem Live.changed (hN : N ≤ 100000) : Calls Try.prog 14 #[.pointer (some ⟨B, 0, none⟩)] w (RowOfPost (sortI (keysA t.now.ch)) w) := by
  obtain ⟨a, hv⟩ := h.tv
  exact changed_is hv hN
theorem Live.ordered (hN : N ≤ 100000) : Calls Try.prog 20 #[.pointer (some ⟨B, 0, none⟩)] w (RowOfPost (sortI (keysA t.now.od)) w) := by
  obtain ⟨a, hv⟩ := h.tv
  exact ordered_is hv hN
theorem Live.freed (hN : N ≤ 100000) : Calls Try.prog 21 #[.pointer (some ⟨B, 0, none⟩)] w (RowOfPost (sortI (keysA t.now.fr)) w) := by
  obtain ⟨a, hv⟩ := h.tv
  exact freed_is hv hN
theorem Live.revoked (hN : N ≤ 100000) : Calls Try.prog 22 #[.pointer (some ⟨B, 0, none⟩)] w (RowOfPost t.now.rv w) := by
  obtain ⟨a, hv⟩ := h.tv
  exact revoked_is hv hN
theorem Live.void : Calls Try.prog 23 #[.pointer (some ⟨B, 0, none⟩)] w fun e w' => e = .returned (.bool t.now.void) ∧ w = w' := by
  obtain ⟨a, hv⟩ := h.tv
  exact void_is hv
theorem Live.open_ : Calls Try.prog 13 #[.pointer (some ⟨B, 0, none⟩)] w fun e w' => e = .returned (.bool t.isO) ∧ w = w' := by
  obtain ⟨a, hv⟩ := h.tv
  exact open_is hv
theorem Live.seq_ : Calls Try.prog 28 #[.pointer (some ⟨B, 0, none⟩)] w fun e w' => e = .returned (.int .u32 (seq : Int)) ∧ w = w' := by
  obtain ⟨a, hv⟩ := h.tv
  exact seq_is hv
theorem Live.get {b : Int} (hb : IntOk b) : Calls Try.prog 16 #[.pointer (some ⟨B, 0, none⟩), .int .i64 b] w fun e w' => e = .returned (.tuple #[.agg (bc ((lookA t.now.ch b).getD zeroB)).toArray, .bool (decide (b ∈ keysA t.now.ch))]) ∧ Grow w w' := by
  obtain ⟨a, hv⟩ := h.tv
  exact get_is hv hb
theorem Live.trans (hN : N ≤ 100000) : Calls Try.prog 15 #[.pointer (some ⟨B, 0, none⟩)] w fun e w' => ∃ vc vr, e = .returned (.agg #[.int .u32 (seq : Int), vc, vr]) ∧ CRow w' vc t.now.copies ∧ IRow w' vr t.now.rv ∧ Grow w w' ∧ (∀ g, vc.ownBlock = some g → w.heap.size ≤ g) ∧ (∀ g, vr.ownBlock = some g → w.heap.size ≤ g) := by
  obtain ⟨a, hv⟩ := h.tv
  exact trans_is hv hN
end
theorem live_new (seq : Nat) {P : List Nat} (w : World) (hp : ∀ g ∈ P, g < w.heap.size) : Calls Try.prog 8 #[.int .u32 (seq : Int)] w fun e w' => ∃ B, e = .returned (.pointer (some ⟨B, 0, none⟩)) ∧ Live w P B 0 seq (.c noPS) w' := by
  refine (new_ok seq w).mono ?_
  rintro e w' ⟨B, a, he, hT, hg, hi⟩
  exact ⟨B, he, ⟨_, ⟨a, rfl, hT⟩, fun i hm => ⟨hi i hm, fun hq => by have := hp i hq; have := hi i hm; omega⟩⟩, hg, fun g hm => Nat.lt_of_lt_of_le (hp g hm) hg.size⟩
#print axioms live_new
end Go.Proofs.Ytnogajnoghjmhaa
