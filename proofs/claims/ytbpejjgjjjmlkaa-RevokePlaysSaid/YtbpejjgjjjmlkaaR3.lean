/- revoke.Table: Last, Revoked: the walks. -/
import Derived.Test.YtbpejjgjjjmlkaaR2
set_option linter.unusedVariables false
set_option linter.unusedSimpArgs false
namespace Go.Proofs.Ytbpejjgjjjmlkaa
open Go.RowKit Go.Maps

/-- the greatest number of a block's records among some -/
structure LastIs (p : Rc → Prop) (b : Int) (last : Nat) (found : Bool) : Prop where
  up : ∀ r, p r → r.1 = b → r.2 ≤ last
  yes : found = true → ∃ r, p r ∧ r.1 = b ∧ r.2 = last
  no : found = false → last = 0 ∧ ∀ r, p r → r.1 ≠ b
theorem LastIs.unique {p : Rc → Prop} {b : Int} {l l' : Nat} {f f' : Bool} (h : LastIs p b l f) (h' : LastIs p b l' f') : l = l' ∧ f = f' := by
  cases f <;> cases f'
  · exact ⟨by rw [(h.no rfl).1, (h'.no rfl).1], rfl⟩
  · obtain ⟨r, h1, h2, _⟩ := h'.yes rfl; exact absurd h2 ((h.no rfl).2 r h1)
  · obtain ⟨r, h1, h2, _⟩ := h.yes rfl; exact absurd h2 ((h'.no rfl).2 r h1)
  · obtain ⟨r, h1, h2, h3⟩ := h.yes rfl
    obtain ⟨s, h4, h5, h6⟩ := h'.yes rfl
    have := h.up s h4 h5
    have := h'.up r h1 h2
    exact ⟨by omega, rfl⟩
theorem LastIs.congr {p q : Rc → Prop} {b : Int} {l : Nat} {f : Bool} (h : LastIs p b l f) (he : ∀ r, p r ↔ q r) : LastIs q b l f :=
  ⟨fun r hr => h.up r ((he r).2 hr), fun hf => by obtain ⟨r, h1, h2⟩ := h.yes hf; exact ⟨r, (he r).1 h1, h2⟩, fun hf => ⟨(h.no hf).1, fun r hr => (h.no hf).2 r ((he r).2 hr)⟩⟩
theorem LastIs.none (b : Int) : LastIs (fun _ => False) b 0 false := ⟨fun r h => h.elim, fun h => (by cases h), fun _ => ⟨rfl, fun r h => h.elim⟩⟩
/-- one more record, of the block -/
theorem LastIs.more {p : Rc → Prop} {b : Int} {l : Nat} {f : Bool} (h : LastIs p b l f) (x : Rc) (hx : x.1 = b) : LastIs (fun r => p r ∨ r = x) b (max l x.2) true where
  up := fun r hr hb => by
    rcases hr with h1 | rfl
    · have := h.up r h1 hb; omega
    · omega
  yes := fun _ => by
    cases f
    · have := (h.no rfl).1
      exact ⟨x, .inr rfl, hx, by omega⟩
    · obtain ⟨r, h1, h2, h3⟩ := h.yes rfl
      by_cases hc : l ≤ x.2
      · exact ⟨x, .inr rfl, hx, by omega⟩
      · exact ⟨r, .inl h1, h2, by omega⟩
  no := fun hf => (by cases hf)
/-- one more record, of another block -/
theorem LastIs.other {p : Rc → Prop} {b : Int} {l : Nat} {f : Bool} (h : LastIs p b l f) (x : Rc) (hx : x.1 ≠ b) : LastIs (fun r => p r ∨ r = x) b l f where
  up := fun r hr hb => by
    rcases hr with h1 | rfl
    · exact h.up r h1 hb
    · exact absurd hb hx
  yes := fun hf => by obtain ⟨r, h1, h2⟩ := h.yes hf; exact ⟨r, .inl h1, h2⟩
  no := fun hf => ⟨(h.no hf).1, fun r hr => by
    rcases hr with h1 | rfl
    · exact (h.no hf).2 r h1
    · exact hx⟩
/-- the records that have come so far -/
def Seen (m : List Rc) (left : Lit → Bool) (r : Rc) : Prop := r ∈ m ∧ left (kl r) = false
theorem seen_start {D : DataW Unit} {m : List Rc} (h : SetOf D m) (r : Rc) : False ↔ Seen m (Maps.has D) r :=
  ⟨fun f => f.elim, fun ⟨h1, h2⟩ => by rw [h.has r (h.ok r h1), decide_eq_true h1] at h2; cases h2⟩
theorem seen_end {m : List Rc} {left : Lit → Bool} (h : ∀ l, left l = false) (r : Rc) : Seen m left r ↔ r ∈ m := ⟨fun h => h.1, fun h1 => ⟨h1, h _⟩⟩
theorem seen_step {m : List Rc} {left : Lit → Bool} (hok : ∀ r ∈ m, RcOk r) {x : Rc} (hx : x ∈ m) (r : Rc) : (Seen m left r ∨ r = x) ↔ Seen m (fun z => left z && !z.sameKey (kl x)) r := by
  unfold Seen
  constructor
  · rintro (⟨h1, h2⟩ | rfl)
    · exact ⟨h1, by simp [h2]⟩
    · exact ⟨hx, by simp [kl_same (hok r hx) (hok r hx)]⟩
  · rintro ⟨h1, h2⟩
    simp only [kl_same (hok r h1) (hok x hx)] at h2
    by_cases e : r = x
    · exact .inr e
    · exact .inl ⟨h1, by simpa [e] using h2⟩
theorem kv_inv {x : Rc} {l : Lit} (h : keyOf Try.prog 60 (.agg #[.int .i64 x.1, .int .u32 (x.2 : Int)]) = some l) : RcOk x ∧ l = kl x := by
  obtain ⟨r, h1, h2, h3⟩ := keyOf_inv h
  unfold kv at h2
  simp only [Value.agg.injEq, Array.mk.injEq, List.cons.injEq, Value.int.injEq, and_true, true_and] at h2
  obtain rfl : x = r := Prod.ext h2.1 (by omega)
  exact ⟨h1, h3⟩
theorem SetOf.mem_of {D : DataW Unit} {m : List Rc} (h : SetOf D m) {x : Rc} (hx : RcOk x) {y : DataW Unit} (hat : ∀ z, D.atKey (kl x) z = y) : x ∈ m := by
  have := has_true_of_atKey hat
  rw [h.has x hx] at this
  exact of_decide_eq_true this
theorem max_cast (a b : Nat) : max (a : Int) (b : Int) = ((max a b : Nat) : Int) := by omega
def LastPost (m : List Rc) (b : Int) (w : World) (e : Ending) (w' : World) : Prop := ∃ (last : Nat) (found : Bool), e = .returned (.tuple #[.int .u32 (last : Int), .bool found]) ∧ last < 4294967296 ∧ LastIs (· ∈ m) b last found ∧ Grow w w'
set_option maxRecDepth 100000 in
set_option maxHeartbeats 2000000 in
theorem last_ok {w : World} {B bm n : Nat} {m : List Rc} (h : Tab w B bm n m) (b : Int) : Calls Try.prog 10 #[.pointer (some ⟨B, 0, none⟩), .int .i64 b] w (LastPost m b w) := by
  have HT := Lib.hid h
  have c0 := h.cell
  obtain ⟨D, hown, hs⟩ := h.map
  have HO := Lib.hid hown
  have HS := Lib.hid hs
  have HBM := Lib.hid h.lt.2
  clear h hown hs
  go_enter Try.func10, Try.ntmps10
  go_wp2_with fail
  refine (made_yes HT.out).mono ?_
  rintro e w' ⟨rfl, rfl⟩
  go_wp2_with (first | (at_range; refine wpList_range_own _ rfl _ 48 rfl 60 67 keyed Try.underlying48 _ bm n D rfl HO.out ?_; intro w0 hrg0 hg0 hs0))
  go_frame
  have HR0 := Lib.hid hrg0
  have HG0 := Lib.hid (show Grow w w0 from (Touch.grown (S := []) hg0 (by simp)).below (Nat.le_refl _) (by simp))
  clear hrg0 hg0 hs0 c0
  go_loopw [6, 7] (fun t6 t7 wr => ∃ (left : Lit → Bool) (cnt : Nat) (last : Nat) (found : Bool), t6 = .int .u32 (last : Int) ∧ t7 = .bool found ∧ last < 4294967296 ∧ Hid (wr.ranges Try.prog 60 (unitElem (H := Unit)) bm w.heap.size n D left cnt) ∧ Hid (LastIs (Seen m left) b last found) ∧ Hid (Grow w wr)) (fun _ _ wr => wr.rangeLeft bm w.heap.size)
  case atStart => exact ⟨_, _, 0, false, rfl, rfl, by omega, HR0, Lib.hid ((LastIs.none b).congr (seen_start HS.out)), HG0⟩
  case round =>
    obtain ⟨left, cnt, last, found, rfl, rfl, hl32, HR, HL, HG⟩ := hrel
    go_wp2_with (first | (at_next; refine wpList_next_ranges _ rfl _ rfl 60 keyed (unitElem (H := Unit)) (fun x : Rc => Value.agg #[.int .i64 x.1, .int .u32 (x.2 : Int)]) (fun _ : Unit => Value.agg #[]) (fun key l hk => by obtain ⟨r, _, h2, _⟩ := keyOf_inv hk; exact ⟨r, h2⟩) (fun v y hv => ⟨(), (unitElem_inv hv).1⟩) bm w.heap.size n _ _ _ rfl HR.out ?_ ?_))
    · intro _ hl0
      have HF := Lib.hid (HL.out.congr (seen_end hl0))
      clear hl0
      go_wp2_with fail
      go_ret2
      exact ⟨last, found, rfl, hl32, HF.out, HG.out⟩
    · intro xb xs l0 y1 y2 w1 cnt1 hkey hlk hv hat hrg1 hlt hg1 hs1 hen
      obtain ⟨hok, rfl⟩ := kv_inv (x := (xb, xs)) hkey
      have hxm := HS.out.mem_of hok hat
      have HR1 := Lib.hid hrg1
      have HG1 := Lib.hid (show Grow w w1 from Below.trans HG.out ((Touch.grown (S := [w.heap.size]) hg1 (fun k e => by cases e; simp)).below HG.out.size (by simp)))
      have HLT := Lib.hid hlt
      have hmx := max_cast last xs
      have hx32 : xs < 4294967296 := hok.2.2
      have HST := Lib.hid (seen_step (left := left) HS.out.ok hxm)
      clear hkey hlk hv hat hrg1 hg1 hlt hok hxm
      by_cases hxb : xb = b
      · have HL1 := Lib.hid ((HL.out.more (xb, xs) hxb).congr HST.out)
        have exb : (xb == b) = true := by simpa using hxb
        go_wp2_with fail
        go_roundw
        case rel => exact ⟨_, cnt1, max last xs, true, by split <;> (congr 1; omega), rfl, by omega, Lib.hid (HR1.out.alloc _), HL1, Lib.hid (Grow.trans HG1.out (Grow.alloc _ _))⟩
        case measure => rw [(HR1.out.alloc _).left_eq, HR.out.left_eq]; exact HLT.out
      · have HL1 := Lib.hid ((HL.out.other (xb, xs) hxb).congr HST.out)
        have exb : (xb == b) = false := by simpa using hxb
        go_wp2_with fail
        go_roundw
        case rel => exact ⟨_, cnt1, last, found, rfl, rfl, hl32, Lib.hid (HR1.out.alloc _), HL1, Lib.hid (Grow.trans HG1.out (Grow.alloc _ _))⟩
        case measure => rw [(HR1.out.alloc _).left_eq, HR.out.left_eq]; exact HLT.out
#print axioms last_ok
/-- is a block revoked for a number? -/
def revoked (m : List Rc) (b : Int) (s : Nat) : Bool := m.any fun r => decide (r.1 = b ∧ s ≤ r.2)
theorem LastIs.revoked {m : List Rc} {b : Int} {l : Nat} {f : Bool} (h : LastIs (· ∈ m) b l f) (s : Nat) : (f && decide (s ≤ l)) = revoked m b s := by
  unfold Go.Proofs.Ytbpejjgjjjmlkaa.revoked
  rw [Bool.eq_iff_iff]
  simp only [Bool.and_eq_true, decide_eq_true_eq, List.any_eq_true]
  constructor
  · rintro ⟨rfl, hs⟩
    obtain ⟨r, h1, h2, h3⟩ := h.yes rfl
    exact ⟨r, h1, h2, by omega⟩
  · rintro ⟨r, h1, h2, h3⟩
    have hu := h.up r h1 h2
    cases f
    · exact absurd h2 ((h.no rfl).2 r h1)
    · exact ⟨rfl, by omega⟩
set_option maxHeartbeats 1000000 in
theorem revoked_ok {w : World} {B bm n : Nat} {m : List Rc} (h : Tab w B bm n m) (b : Int) (s : Nat) (hs : s < 4294967296) : Calls Try.prog 11 #[.pointer (some ⟨B, 0, none⟩), .int .i64 b, .int .u32 (s : Int)] w fun e w' => e = .returned (.bool (revoked m b s)) ∧ Grow w w' := by
  have HT := Lib.hid h
  clear h
  go_enter Try.func11, Try.ntmps11
  go_wp2_with fail
  refine (last_ok HT.out b).mono ?_
  intro e w1 hpost
  obtain ⟨last, found, he, hl, hi, hg⟩ := hpost
  subst he
  have HL := Lib.hid (hi.revoked s)
  have HG := Lib.hid hg
  clear hi hg
  cases found
  · go_wp2_with fail
    go_ret
    exact ⟨by rw [← HL.out]; rfl, HG.out⟩
  · obtain ⟨d, hd⟩ : ∃ d, decide (s ≤ last) = d := ⟨_, rfl⟩
    have HD := Lib.hid hd
    go_wp2_with fail
    go_ret
    exact ⟨by rw [← HL.out, HD.out]; rfl, HG.out⟩
#print axioms revoked_ok
end Go.Proofs.Ytbpejjgjjjmlkaa
