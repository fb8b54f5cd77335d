/- The law's does: the walk. -/
import Derived.Test.YtbpejjgjjjmlkaaR20
import Derived.Test.YtbpejjgjjjmlkaaR13
set_option linter.unusedVariables false
set_option linter.unusedSimpArgs false
namespace Go.Proofs.Ytbpejjgjjjmlkaa
open Go.RowKit Go.Maps

/-- both tables hold the same records -/
structure Both (w : World) (B bm R k : Nat) (vl : Value) (m : List Rc) : Prop where
  tab : Tab w B bm k m
  rtab : RTab w R vl m
  rb : R ≠ B
  rbm : R ≠ bm
  ob : ∀ g, vl.ownBlock = some g → g ≠ bm ∧ g ≠ B
  len : m.length ≤ k
theorem Both.kept0 {w w' : World} {B bm R k : Nat} {vl : Value} {m : List Rc} (h : Both w B bm R k vl m) (ht : Touch [] w w') : Both w' B bm R k vl m :=
  { h with tab := h.tab.kept ht (by simp) (by simp), rtab := h.rtab.kept0 ht }
theorem Both.next {w w' : World} {B bm R k : Nat} {vl : Value} {m m' : List Rc} (h : Both w B bm R k vl m) (ht : Tab w' B bm (k + 1) m') (hr : ROut w R vl m' w') (hl : m'.length ≤ k + 1) : ∃ vl', Both w' B bm R (k + 1) vl' m' := by
  obtain ⟨vl', h1, h2⟩ := hr
  refine ⟨vl', { tab := ht, rtab := h1, rb := h.rb, rbm := h.rbm, ob := fun g e => ?_, len := hl }⟩
  rcases h2 g e with h3 | h3
  · exact h.ob g h3
  · have := h.tab.lt; exact ⟨by omega, by omega⟩
def stepA (m : List Rc) (p : QP) : List Rc := if p.1.tmod 4 = 2 then (if p.2.1 < 0 then m else delR m (p.2.1, p.2.2)) else if p.1.tmod 4 = 3 then dropR m p.2.2 else (if p.2.1 < 0 then m else insR m (p.2.1, p.2.2))
theorem ROut.same {w : World} {R : Nat} {vl : Value} {m : List Rc} (h : RTab w R vl m) : ROut w R vl m w := ⟨vl, h, fun g e => .inl e⟩
theorem cancel_both {B bm R k : Nat} {vl : Value} {m : List Rc} (hl : m.length ≤ 100000) (b : Int) (s : Nat) (hok : RcOk (b, s)) : ∃ c : Int,
    (∀ wq, Tab wq B bm k m → Calls Try.prog 21 #[.pointer (some ⟨B, 0, none⟩), .int .i64 b, .int .u32 (s : Int)] wq fun e w' => e = .returned (.int .i64 c) ∧ Tab w' B bm (k + 1) (if b < 0 then m else delR m (b, s)) ∧ Touch [bm] wq w') ∧
    (∀ wq, RTab wq R vl m → Calls Try.prog 26 #[.pointer (some ⟨R, 0, none⟩), .int .i64 b, .int .u32 (s : Int)] wq fun e w' => e = .returned (.int .i64 c) ∧ ROut wq R vl (if b < 0 then m else delR m (b, s)) w' ∧ Touch [R] wq w') := by
  by_cases h0 : b < 0
  · refine ⟨2, fun wq ht => (cancel_neg ht b _ h0).mono ?_, fun wq ht => (rcancel_neg wq _ b _ h0).mono ?_⟩
    · rintro e w' ⟨rfl, rfl⟩; rw [if_pos h0]; exact ⟨rfl, ht.mono (by omega), Touch.refl _ _⟩
    · rintro e w' ⟨rfl, rfl⟩; rw [if_pos h0]; exact ⟨rfl, ROut.same ht, Touch.refl _ _⟩
  · refine ⟨0, fun wq ht => (cancel_ok ht (b, s) hok (by show 0 ≤ b; omega)).mono ?_, fun wq ht => (rcancel_ok ht hl b s h0).mono ?_⟩
    · rintro e w' ⟨rfl, h1, h2⟩; rw [if_neg h0]; exact ⟨rfl, h1.mono (by omega), h2⟩
    · rintro e w' ⟨rfl, ⟨vl', h1, h2⟩, h3⟩; rw [if_neg h0]; exact ⟨rfl, ⟨vl', h1, fun g e => .inr (h2 g e)⟩, h3⟩
theorem add_both {B bm R k : Nat} {vl : Value} {m : List Rc} (hk : k ≤ 1000000) (hl : m.length ≤ 100000) (b : Int) (s : Nat) (hok : RcOk (b, s)) : ∃ c : Int,
    (∀ wq, Tab wq B bm k m → Calls Try.prog 20 #[.pointer (some ⟨B, 0, none⟩), .int .i64 b, .int .u32 (s : Int)] wq fun e w' => e = .returned (.int .i64 c) ∧ Tab w' B bm (k + 1) (if b < 0 then m else insR m (b, s)) ∧ Touch [bm] wq w') ∧
    (∀ wq, RTab wq R vl m → Calls Try.prog 28 #[.pointer (some ⟨R, 0, none⟩), .int .i64 b, .int .u32 (s : Int)] wq fun e w' => e = .returned (.int .i64 c) ∧ ROut wq R vl (if b < 0 then m else insR m (b, s)) w' ∧ Touch [R] wq w') := by
  by_cases h0 : b < 0
  · refine ⟨2, fun wq ht => (add_neg ht b _ h0).mono ?_, fun wq ht => (radd_neg wq _ b _ h0).mono ?_⟩
    · rintro e w' ⟨rfl, rfl⟩; rw [if_pos h0]; exact ⟨rfl, ht.mono (by omega), Touch.refl _ _⟩
    · rintro e w' ⟨rfl, rfl⟩; rw [if_pos h0]; exact ⟨rfl, ROut.same ht, Touch.refl _ _⟩
  · refine ⟨0, fun wq ht => (add_ok ht hk (b, s) hok (by show 0 ≤ b; omega)).mono ?_, fun wq ht => (radd_ok ht hl b s h0).mono ?_⟩
    · rintro e w' ⟨rfl, h1, h2⟩; rw [if_neg h0]; exact ⟨rfl, h1, h2⟩
    · rintro e w' ⟨rfl, ⟨vl', h1, h2⟩, h3⟩; rw [if_neg h0]; exact ⟨rfl, ⟨vl', h1, fun g e => .inr (h2 g e)⟩, h3⟩
theorem insR_len (m : List Rc) (r : Rc) : (insR m r).length ≤ m.length + 1 := by unfold insR; rw [List.length_append]; have := delR_len m r; simp; omega
def DoesPost (B bm R k : Nat) (m' : List Rc) (w : World) (e : Ending) (w' : World) : Prop := e = .returned (.bool true) ∧ (∃ vl', Both w' B bm R (k + 1) vl' m') ∧ Touch [bm, R] w w'
set_option maxRecDepth 100000 in
set_option maxHeartbeats 2000000 in
theorem does_ok {w : World} {B bm R k : Nat} {vl : Value} {m : List Rc} (h : Both w B bm R k vl m) (hk : k ≤ 100000) (q b : Int) (s : Nat) (hok : RcOk (b, s)) (hq : 0 ≤ q ∧ q < 256) :
    Calls Try.prog 15 #[.pointer (some ⟨B, 0, none⟩), .pointer (some ⟨R, 0, none⟩), .agg #[.int .u8 q, .int .i64 b, .int .u32 (s : Int)]] w (DoesPost B bm R k (stepA m (q, b, s)) w) := by
  have HB := Lib.hid (h.kept0 (Touch.alloc [] w (.cells #[.int .u8 q, .int .i64 b, .int .u32 (s : Int)] 45)))
  have HH := Lib.hid h
  have hob := heap_alloc_last w (.cells #[.int .u8 q, .int .i64 b, .int .u32 (s : Int)] 45)
  have x0 := cell_at hob 0
  have HP1 := Lib.hid (cell_at hob 1)
  have HP2 := Lib.hid (cell_at hob 2)
  have x2 := cell_at hob 2
  have HPL := Lib.hid (show w.heap.size < (w.alloc (.cells #[.int .u8 q, .int .i64 b, .int .u32 (s : Int)] 45)).heap.size by simp)
  have HTA := Lib.hid (Touch.alloc [bm, R] w (.cells #[.int .u8 q, .int .i64 b, .int .u32 (s : Int)] 45))
  have HPS := Lib.hid (show w.heap.size ∉ [bm, R] by have := h.tab.lt; have := h.rtab.lt; simp; omega)
  have HRB := Lib.hid (show R ∉ [bm] by simpa using h.rbm)
  have HOB := Lib.hid (show ∀ g, vl.ownBlock = some g → g ∉ [bm] from fun g e => by simpa using (h.ob g e).1)
  have HBR := Lib.hid (show B ∉ [R] ∧ bm ∉ [R] from ⟨by simpa using fun c => h.rb c.symm, by simpa using fun c => h.rbm c.symm⟩)
  have hml : m.length ≤ 100000 := by have := h.len; omega
  have hs32 : s < 4294967296 := hok.2.2
  obtain ⟨c1, hc1, hd1⟩ := cancel_both (B := B) (bm := bm) (R := R) (k := k) (vl := vl) hml b s hok
  obtain ⟨c2, hc2, hd2⟩ := add_both (B := B) (bm := bm) (R := R) (k := k) (vl := vl) (show k ≤ 1000000 by omega) hml b s hok
  have HC1 := Lib.hid hc1
  have HD1 := Lib.hid hd1
  have HC2 := Lib.hid hc2
  have HD2 := Lib.hid hd2
  have HLN := Lib.hid h.len
  clear h hob hc1 hd1 hc2 hd2
  obtain ⟨r, hr⟩ : ∃ r : Int, q.tmod 4 = r := ⟨_, rfl⟩
  have HST := Lib.hid (show stepA m (q, b, s) = if r = 2 then (if b < 0 then m else delR m (b, s)) else if r = 3 then dropR m s else (if b < 0 then m else insR m (b, s)) by unfold stepA; rw [hr])
  by_cases hr2 : r = 2
  · have HS2 := Lib.hid (HST.out.trans (if_pos hr2))
    subst hr2
    go_enter Try.func15, Try.ntmps15
    go_upto_region 3 with (fail)
    generalize w.alloc (.cells #[.int .u8 q, .int .i64 b, .int .u32 (s : Int)] 45) = W0 at *
    refine does3_reg B bm R w.heap.size k (k + 1) vl m _ b c1 s W0 (Lib.hid HB.out.tab) (Lib.hid HB.out.rtab) HP1 HP2 HPL HPS HRB HOB HBR HC1 HD1 _ _ _ _ _ _ _ _ _ _ _ _ _ _ _ _ _ _ _ _ _ _ _ _ _ _ _ _ _ _ _ _ _ _ _ _ _ _ _ _ _ _ _ _ _ _ (Lib.hid ?_)
    intro u12 u13 u14 u15 u16 u17 u18 u19 u20 u21 u22 u23 u24 wz ht hT hRo
    have HF := Lib.hid (show DoesPost B bm R k (stepA m (q, b, s)) w (.returned (.bool true)) wz from ⟨rfl, by rw [HS2.out]; exact HB.out.next hT hRo (by split; have := HLN.out; omega; have := HLN.out; have := delR_len m (b, s); omega), HTA.out.trans ht (fun i hi => .inl hi)⟩)
    clear ht hT hRo
    go_wp2_with fail
    go_ret
    exact HF.out
  · have e2 : (r == 2) = false := by simpa using hr2
    by_cases hr3 : r = 3
    · have HS2 := Lib.hid ((HST.out.trans (if_neg hr2)).trans (if_pos hr3))
      subst hr3
      go_enter Try.func15, Try.ntmps15
      go_wp2_with fail
      generalize w.alloc (.cells #[.int .u8 q, .int .i64 b, .int .u32 (s : Int)] 45) = W0 at *
      refine (drop_ok HB.out.tab s hs32).mono ?_
      intro e w1 hpost
      obtain ⟨⟨ve, he⟩, hT1, ht1⟩ := hpost
      subst he
      have HT1 := Lib.hid hT1
      have HR1 := Lib.hid (HB.out.rtab.kept ht1 HRB.out HOB.out)
      have x2' : w1.cell? ⟨w.heap.size, 2, none⟩ = some (.int .u32 (s : Int)) := (ht1.cell (a := ⟨w.heap.size, 2, none⟩) HPL.out (by have := HPS.out; simp at this ⊢; omega)).trans x2
      have HTo := Lib.hid (HTA.out.trans (ht1.mono (S' := [bm, R]) (fun i hi => .inl (by simp at hi; simp [hi]))) (fun i hi => .inl hi))
      have HSZ := Lib.hid ht1.size
      clear hT1 ht1 x0 x2
      go_wp2_with fail
      refine (rdrop_ok HR1.out hml s).mono ?_
      intro e w2 hpost
      obtain ⟨⟨ve2, he⟩, ⟨vl', hR2, ho2⟩, ht2⟩ := hpost
      subst he
      have HF := Lib.hid (show DoesPost B bm R k (stepA m (q, b, s)) w (.returned (.bool true)) w2 from ⟨rfl, by
        rw [HS2.out]
        refine HB.out.next ((HT1.out.mono (Nat.le_succ k)).kept ht2 HBR.out.1 HBR.out.2) ⟨vl', hR2, fun g e => .inr (Nat.le_trans HSZ.out (ho2 g e))⟩ ?_
        have := HLN.out; have := dropR_len m s; omega, HTo.out.trans (ht2.mono (S' := [bm, R]) (fun i hi => .inl (by simp at hi; simp [hi]))) (fun i hi => .inl hi)⟩)
      clear hR2 ho2 ht2
      go_wp2_with fail
      go_ret
      exact HF.out
    · have e3 : (r == 3) = false := by simpa using hr3
      have HS2 := Lib.hid ((HST.out.trans (if_neg hr2)).trans (if_neg hr3))
      go_enter Try.func15, Try.ntmps15
      go_upto_region 8 with (fail)
      generalize w.alloc (.cells #[.int .u8 q, .int .i64 b, .int .u32 (s : Int)] 45) = W0 at *
      refine does8_reg B bm R w.heap.size k (k + 1) vl m _ b c2 s W0 (Lib.hid HB.out.tab) (Lib.hid HB.out.rtab) HP1 HP2 HPL HPS HRB HOB HBR HC2 HD2 _ _ _ _ _ _ _ _ _ _ _ _ _ _ _ _ _ _ _ _ _ _ _ _ _ _ _ _ _ _ _ _ _ _ _ _ _ _ _ _ _ _ _ _ _ _ (Lib.hid ?_)
      intro u35 u36 u37 u38 u39 u40 u41 u42 u43 u44 u45 u46 u47 wz ht hT hRo
      have HF := Lib.hid (show DoesPost B bm R k (stepA m (q, b, s)) w (.returned (.bool true)) wz from ⟨rfl, by rw [HS2.out]; exact HB.out.next hT hRo (by split; have := HLN.out; omega; have := HLN.out; have := insR_len m (b, s); omega), HTA.out.trans ht (fun i hi => .inl hi)⟩)
      clear ht hT hRo
      go_wp2_with fail
      go_ret
      exact HF.out
#print axioms does_ok
end Go.Proofs.Ytbpejjgjjjmlkaa
