/- Rows of elements of some cells each, in memory: reading one, storing one; and which blocks a step may turn. -/
import Derived.Laws.OwnMore
import Derived.Laws.AppendOwn
import Derived.Deep.MidRow
import Derived.Deep.Upon
import Derived.Below
import Derived.OwnWalk
import Derived.Lib.Hide
namespace Go.Proofs.YtieknecbheeekaaDoor
open Go Go.RowKit

/-- cells that are written one behind the other -/
def setMany (xs : List Value) : Nat → List Value → List Value
  | _, [] => xs
  | o, v :: r => setMany (xs.set o v) (o + 1) r
theorem setMany_length : ∀ (vs : List Value) (xs : List Value) (o : Nat), (setMany xs o vs).length = xs.length := by
  intro vs
  induction vs with
  | nil => intro xs o; rfl
  | cons v r ih => intro xs o; rw [setMany, ih]; simp
theorem setMany_get : ∀ (vs : List Value) (xs : List Value) (o k : Nat), o + vs.length ≤ xs.length → (setMany xs o vs)[k]? = if o ≤ k ∧ k < o + vs.length then vs[k - o]? else xs[k]? := by
  intro vs
  induction vs with
  | nil => intro xs o k h; rw [setMany, if_neg (fun c => by have h1 := c.1; have h2 := c.2; simp only [List.length_nil] at h2; omega)]
  | cons v r ih =>
    intro xs o k h
    simp only [List.length_cons] at h
    rw [setMany, ih _ _ _ (by simp; omega), List.getElem?_set]
    by_cases e : k = o
    · subst e
      rw [if_neg (by omega), if_pos rfl, if_pos (by omega), if_pos (by simp)]
      simp
    · by_cases e1 : o + 1 ≤ k ∧ k < o + 1 + r.length
      · rw [if_pos e1, if_pos (by simp; omega)]
        obtain ⟨d, rfl⟩ : ∃ d, k = o + 1 + d := ⟨k - o - 1, by omega⟩
        rw [show o + 1 + d - o = d + 1 by omega, show o + 1 + d - (o + 1) = d by omega]
        simp
      · rw [if_neg e1, if_neg (fun h => e h.symm), if_neg (by simp; omega)]
theorem flatten_length (sz : Nat) : ∀ (l : List (List Value)), (∀ c ∈ l, c.length = sz) → l.flatten.length = l.length * sz := by
  intro l
  induction l with
  | nil => intro _; simp
  | cons c l ih =>
    intro h
    rw [List.flatten_cons, List.length_append, ih (fun d hd => h d (by simp [hd])), h c (by simp), List.length_cons, Nat.add_mul]
    omega
theorem flatten_get (sz : Nat) : ∀ (l : List (List Value)) (i j : Nat) (c : List Value), (∀ c ∈ l, c.length = sz) → l[i]? = some c → j < sz → l.flatten[i * sz + j]? = c[j]? := by
  intro l
  induction l with
  | nil => intro i j c _ h; simp at h
  | cons d l ih =>
    intro i j c h hi hj
    have hd := h d (by simp)
    rw [List.flatten_cons]
    cases i with
    | zero =>
      obtain rfl : d = c := by simpa using hi
      rw [Nat.zero_mul, Nat.zero_add, List.getElem?_append_left (by omega)]
    | succ i =>
      rw [List.getElem?_append_right (by rw [hd, Nat.add_mul]; omega), hd, show (i + 1) * sz + j - sz = i * sz + j by rw [Nat.add_mul]; omega]
      exact ih i j c (fun e he => h e (by simp [he])) (by simpa using hi) hj
theorem flatten_set (sz : Nat) : ∀ (l : List (List Value)) (i : Nat) (c : List Value), (∀ c ∈ l, c.length = sz) → c.length = sz → i < l.length → setMany l.flatten (i * sz) c = (l.set i c).flatten := by
  intro l i c h hc hi
  have h2 : ∀ d ∈ l.set i c, d.length = sz := by
    intro d hd
    rcases List.mem_or_eq_of_mem_set hd with h1 | h1
    · exact h d h1
    · rw [h1]; exact hc
  have hle : i * sz + sz ≤ l.length * sz := by
    have := Nat.mul_le_mul_right sz (show i + 1 ≤ l.length by omega)
    rw [Nat.add_mul] at this
    omega
  apply List.ext_getElem?
  intro k
  rw [setMany_get _ _ _ _ (by rw [flatten_length sz l h, hc]; exact hle), hc]
  by_cases hk : k < l.length * sz
  · have hsz : 0 < sz := by
      apply Nat.pos_of_ne_zero
      intro e
      rw [e] at hk
      omega
    have hd := Nat.div_add_mod k sz
    have hm := Nat.mod_lt k hsz
    have hq : k / sz < l.length := Nat.div_lt_of_lt_mul (by rw [Nat.mul_comm]; exact hk)
    rw [Nat.mul_comm] at hd
    have e1 : ∀ (m : List (List Value)), (∀ c ∈ m, c.length = sz) → m.length = l.length → m.flatten[k]? = (m[k / sz]?.getD [])[k % sz]? := by
      intro m hm' hl
      have hx : m[k / sz]? = some (m[k / sz]'(by omega)) := List.getElem?_eq_getElem (by omega)
      rw [hx, Option.getD_some, ← flatten_get sz m (k / sz) (k % sz) _ hm' hx hm, hd]
    rw [e1 l h rfl, e1 _ h2 (by simp), List.getElem?_set]
    by_cases e : i = k / sz
    · subst e
      rw [if_pos (by omega), if_pos rfl, if_pos hq, Option.getD_some, show k - k / sz * sz = k % sz by omega]
    · rw [if_neg e, if_neg]
      intro ⟨a, b⟩
      apply e
      have e3 : k / sz = i := by
        rw [Nat.div_eq_iff hsz]
        omega
      exact e3.symm
  · rw [if_neg (by omega), List.getElem?_eq_none (by rw [flatten_length sz l h]; omega), List.getElem?_eq_none (by rw [flatten_length sz _ h2]; simp; omega)]

/-- a slice whose elements are these, each of sz cells -/
def Row (w : World) (e sz : Nat) (v : Value) (l : List (List Value)) : Prop := (∀ c ∈ l, c.length = sz) ∧ w.ownsRow 0 e sz v l.length l.flatten
theorem Row.range {w : World} {e sz g n cap : Nat} {l : List (List Value)} (h : Row w e sz (.slice (some ⟨g, 0, none⟩) n cap) l) {i : Nat} {c : List Value} (hi : l[i]? = some c) : w.rangeAt g (i * sz) c := by
  obtain ⟨h1, h2⟩ := h
  have hil : i < l.length := (List.getElem?_eq_some_iff.1 hi).1
  have hc : c.length = sz := h1 c (List.mem_of_getElem? hi)
  have hn : n = l.length := by
    rcases h2.2 with ⟨hv, _⟩ | ⟨g', cap', cur, hv, _⟩
    · cases hv
    · cases hv; rfl
  subst hn
  intro j v hv
  have hj : j < sz := by rw [← hc]; exact (List.getElem?_eq_some_iff.1 hv).1
  have hle : i * sz + sz ≤ l.length * sz := by
    have := Nat.mul_le_mul_right sz (show i + 1 ≤ l.length by omega)
    rw [Nat.add_mul] at this
    omega
  rw [h2.cellAt _ (by omega), flatten_get sz l i j c h1 hi hj]
  exact hv
theorem Row.there {w : World} {e sz g n cap : Nat} {l : List (List Value)} (h : Row w e sz (.slice (some ⟨g, 0, none⟩) n cap) l) {i : Nat} (hi : i < l.length) : w.there g (i * sz) sz := by
  intro j hj
  obtain ⟨h1, h2⟩ := h
  have hr := Row.range ⟨h1, h2⟩ (List.getElem?_eq_getElem hi)
  have hc : (l[i]).length = sz := h1 _ (List.getElem_mem hi)
  have hn : n = l.length := by
    rcases h2.2 with ⟨hv, _⟩ | ⟨g', cap', cur, hv, _⟩
    · cases hv
    · cases hv; rfl
  subst hn
  refine ⟨?_, h2.frozenAt _⟩
  rw [hr j _ (List.getElem?_eq_getElem (by omega))]
  rfl
theorem own_setCells {e sz g n cap : Nat} : ∀ (vs : List Value) (o : Nat) (w : World) (xs : List Value), w.ownsRow 0 e sz (.slice (some ⟨g, 0, none⟩) n cap) n xs → (w.setCells g o vs).ownsRow 0 e sz (.slice (some ⟨g, 0, none⟩) n cap) n (setMany xs o vs) := by
  intro vs
  induction vs with
  | nil => intro o w xs h; exact h
  | cons v r ih => intro o w xs h; rw [World.setCells, setMany]; exact ih _ _ _ (h.stored o v).1
theorem Row.store {w : World} {e sz g n cap : Nat} {l : List (List Value)} (h : Row w e sz (.slice (some ⟨g, 0, none⟩) n cap) l) {i : Nat} {c : List Value} (hc : c.length = sz) (hi : i < l.length) :
    Row (w.setCells g (i * sz) c) e sz (.slice (some ⟨g, 0, none⟩) n cap) (l.set i c) := by
  obtain ⟨h1, h2⟩ := h
  have hn : n = l.length := by
    rcases h2.2 with ⟨hv, _⟩ | ⟨g', cap', cur, hv, _⟩
    · cases hv
    · cases hv; rfl
  subst hn
  refine ⟨?_, ?_⟩
  · intro d hd
    rcases List.mem_or_eq_of_mem_set hd with h3 | h3
    · exact h1 d h3
    · rw [h3]; exact hc
  · have := own_setCells c (i * sz) w _ h2
    rw [flatten_set sz l i c h1 hc hi] at this
    simpa using this

/-- the blocks of S may have turned; all others that were there are as they were -/
structure Touch (S : List Nat) (w w' : World) : Prop where
  os : w'.os = w.os
  tape : w'.tape = w.tape
  output : w'.output = w.output
  size : w.heap.size ≤ w'.heap.size
  block : ∀ k, k < w.heap.size → k ∉ S → w'.heap[k]? = w.heap[k]?
theorem Touch.refl (S : List Nat) (w : World) : Touch S w w := ⟨rfl, rfl, rfl, Nat.le_refl _, fun _ _ _ => rfl⟩
theorem Touch.trans {S S' : List Nat} {a b c : World} (h : Touch S a b) (k : Touch S' b c) (hS : ∀ i ∈ S', i ∈ S ∨ a.heap.size ≤ i) : Touch S a c :=
  ⟨k.os.trans h.os, k.tape.trans h.tape, k.output.trans h.output, Nat.le_trans h.size k.size, fun i hi hn => (k.block i (Nat.lt_of_lt_of_le hi h.size) (fun hm => by rcases hS i hm with h1 | h1; exact hn h1; omega)).trans (h.block i hi hn)⟩
theorem Touch.mono {S S' : List Nat} {a b : World} (h : Touch S a b) (hS : ∀ i ∈ S, i ∈ S' ∨ a.heap.size ≤ i) : Touch S' a b :=
  ⟨h.os, h.tape, h.output, h.size, fun i hi hn => h.block i hi (fun hm => by rcases hS i hm with h1 | h1; exact hn h1; omega)⟩
theorem Touch.alloc (S : List Nat) (w : World) (o : Obj) : Touch S w (w.alloc o) := ⟨rfl, rfl, rfl, by simp, fun k hk _ => Below.heap_alloc w o k hk⟩
theorem Touch.drew (S : List Nat) (w : World) : Touch S w w.drew := ⟨rfl, rfl, rfl, Nat.le_refl _, fun _ _ _ => rfl⟩
theorem Touch.setCell {S : List Nat} (w : World) {a : Addr} (h : a.block ∈ S) (v : Value) : Touch S w (w.setCell a v) :=
  ⟨rfl, rfl, rfl, by simp, fun k _ hn => Below.heap_setCell w a v k (fun e => hn (e ▸ h))⟩
theorem touch_setCells {S : List Nat} {g : Nat} (h : g ∈ S) : ∀ (vs : List Value) (o : Nat) (w : World), Touch S w (w.setCells g o vs) := by
  intro vs
  induction vs with
  | nil => intro o w; exact Touch.refl _ _
  | cons v r ih => intro o w; rw [World.setCells]; exact (Touch.setCell w h v).trans (ih _ _) (fun i hi => .inl hi)
theorem Touch.grown {S : List Nat} {w w' : World} {row : Option Nat} (hg : w.grownBy w' row) (hr : ∀ k, row = some k → k ∈ S) : Touch S w w' :=
  ⟨hg.os, hg.tape, hg.output, hg.size, fun k hk hn => hg.block k hk (fun e => hn (hr k e.symm))⟩
theorem Touch.below {S : List Nat} {w w' : World} (h : Touch S w w') {B : Nat} (hB : B ≤ w.heap.size) (hS : ∀ k ∈ S, B ≤ k) : Below B w w' :=
  ⟨h.os, h.tape, h.output, h.size, fun k hk => h.block k (by omega) (fun hm => by have := hS k hm; omega)⟩
theorem Touch.of_below {S : List Nat} {w w' : World} (h : Below w.heap.size w w') : Touch S w w' := ⟨h.os, h.tape, h.output, h.size, fun k hk _ => h.block k hk⟩
theorem Touch.cell {S : List Nat} {w w' : World} (h : Touch S w w') {a : Addr} (ha : a.block < w.heap.size) (hn : a.block ∉ S) : w'.cell? a = w.cell? a := World.cell?_of_block (h.block _ ha hn)
theorem Touch.frozen {S : List Nat} {w w' : World} (h : Touch S w w') {a : Addr} (ha : a.block < w.heap.size) (hn : a.block ∉ S) : w'.frozen? a = w.frozen? a := World.frozen?_of_block (h.block _ ha hn)
/-- a row that lies apart stays -/
theorem Row.kept {S : List Nat} {w w' : World} {e sz : Nat} {v : Value} {l : List (List Value)} (h : Row w e sz v l) (ht : Touch S w w') (hn : ∀ g, v.ownBlock = some g → g ∉ S) : Row w' e sz v l := by
  refine ⟨h.1, h.2.1, ?_⟩
  rcases h.2.2 with h1 | ⟨g, cap, cur, hv, hb, hh, h3⟩
  · exact .inl h1
  · have hl : g < w.heap.size := (Array.getElem?_eq_some_iff.1 hh).1
    exact .inr ⟨g, cap, cur, hv, hb, (ht.block g hl (hn g (by rw [hv]; rfl))).trans hh, h3⟩
theorem Row.lt {w : World} {e sz : Nat} {v : Value} {l : List (List Value)} (h : Row w e sz v l) {g : Nat} (hg : v.ownBlock = some g) : g < w.heap.size := (World.ownsRow.lt h.2 g hg).2
theorem Row.open_ {w : World} {e sz : Nat} {v : Value} {l : List (List Value)} (h : Row w e sz v l) (hl : 0 < l.length) : ∃ g cap, v = .slice (some ⟨g, 0, none⟩) l.length cap ∧ g < w.heap.size ∧ l.length ≤ cap ∧ cap ≤ maxLen := by
  rcases h.2.2 with ⟨_, h0⟩ | ⟨g, cap, cur, hv, _, hh, h3, h4, _⟩
  · omega
  · exact ⟨g, cap, hv, (Array.getElem?_eq_some_iff.1 hh).1, h3, h4⟩
end Go.Proofs.YtieknecbheeekaaDoor
