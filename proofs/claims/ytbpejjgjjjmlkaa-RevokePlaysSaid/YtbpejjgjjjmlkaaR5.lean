/- The law's laid: the walk. -/
import Derived.Test.YtbpejjgjjjmlkaaR4
import Derived.Deep.Cut
set_option linter.unusedVariables false
set_option linter.unusedSimpArgs false
namespace Go.Proofs.Ytbpejjgjjjmlkaa
open Go.RowKit Go.Maps

abbrev RP := Int × Nat × Bool
def RecsIn (w : World) (v : Value) (l : List RP) : Prop := ∃ a cap, v = .slice a l.length cap ∧ ∀ i p, l[i]? = some p → ∃ y : Addr, a = some y ∧ y.block < w.heap.size ∧ w.cell? (y.add (i * 3)) = some (.int .i64 p.1) ∧ w.cell? ((y.add (i * 3)).add 1) = some (.int .u32 (p.2.1 : Int)) ∧ w.cell? ((y.add (i * 3)).add 2) = some (.bool p.2.2) ∧ RcOk (p.1, p.2.1)
def rcell (r : Rc) : List Value := [.int .i64 r.1, .int .u32 (r.2 : Int), .bool false]
def stepR (m : List Rc) (p : RP) : List Rc := if p.1 < 0 then m else if p.2.2 then delR m (p.1, p.2.1) else insR m (p.1, p.2.1)
def laidR (l : List RP) : List Rc := l.foldl stepR []
theorem laidR_snoc (l : List RP) (k : Nat) (p : RP) (h : l[k]? = some p) : laidR (l.take (k + 1)) = stepR (laidR (l.take k)) p := by
  have hk := (List.getElem?_eq_some_iff.1 h).1
  have hv := (List.getElem?_eq_some_iff.1 h).2
  unfold laidR
  rw [List.take_succ_eq_append_getElem hk, List.foldl_append, hv]
  rfl
theorem delR_none {m : List Rc} (hp : ∀ r ∈ m, 0 ≤ r.1) {x : Rc} (hx : x.1 < 0) : delR m x = m := by
  unfold delR
  rw [List.filter_eq_self]
  intro r hr
  have := hp r hr
  simp only [decide_eq_true_eq]
  intro e
  rw [e] at this
  omega
theorem delR_step (m : List Rc) (j : Nat) (r x : Rc) (h : m[j]? = some r) : delR (m.take (j + 1)) x = if r = x then delR (m.take j) x else delR (m.take j) x ++ [r] := by
  have hk := (List.getElem?_eq_some_iff.1 h).1
  have hv := (List.getElem?_eq_some_iff.1 h).2
  unfold delR
  rw [List.take_succ_eq_append_getElem hk, List.filter_append, hv]
  by_cases e : r = x <;> simp [e]
theorem Tab.mono {w : World} {B bm n n' : Nat} {m : List Rc} (h : Tab w B bm n m) (hn : n ≤ n') : Tab w B bm n' m := by
  obtain ⟨D, h1, h2⟩ := h.map
  exact ⟨h.obj, D, h1.mono hn, h2⟩
structure LInv (w : World) (B bm k : Nat) (m : List Rc) (vm : Value) (wr : World) : Prop where
  tab : Tab wr B bm k m
  row : Row wr 28 3 vm (m.map rcell)
  bl : w.heap.size ≤ B
  bml : w.heap.size ≤ bm
  vl : ∀ g, vm.ownBlock = some g → w.heap.size ≤ g ∧ g ≠ B ∧ g ≠ bm
  grow : Grow w wr
  pos : ∀ r ∈ m, 0 ≤ r.1
  len : m.length ≤ k
theorem stepR_pos {m : List Rc} (hp : ∀ r ∈ m, 0 ≤ r.1) (p : RP) : ∀ r ∈ stepR m p, 0 ≤ r.1 := by
  intro r hr
  unfold stepR at hr
  split at hr
  · exact hp r hr
  · split at hr
    · exact hp r (delR_mem.1 hr).1
    · rcases insR_mem.1 hr with h | h
      · exact hp r h
      · rw [h]; show 0 ≤ p.1; omega
theorem delR_len (m : List Rc) (x : Rc) : (delR m x).length ≤ m.length := List.length_filter_le _ _
theorem stepR_len {m : List Rc} {k : Nat} (h : m.length ≤ k) (p : RP) : (stepR m p).length ≤ k + 1 := by
  unfold stepR
  split
  · omega
  · split
    · have := delR_len m (p.1, p.2.1); omega
    · unfold insR; rw [List.length_append]; have := delR_len m (p.1, p.2.1); simp; omega
theorem doR {B bm k : Nat} {m : List Rc} (hk : k ≤ 1000000) (p : RP) (hok : RcOk (p.1, p.2.1)) : (p.2.2 = true → ∀ wq, Tab wq B bm k m → Calls Try.prog 21 #[.pointer (some ⟨B, 0, none⟩), .int .i64 p.1, .int .u32 (p.2.1 : Int)] wq fun e w' => (∃ v, e = .returned v) ∧ Tab w' B bm (k + 1) (stepR m p) ∧ Touch [bm] wq w') ∧
    (p.2.2 = false → ∀ wq, Tab wq B bm k m → Calls Try.prog 20 #[.pointer (some ⟨B, 0, none⟩), .int .i64 p.1, .int .u32 (p.2.1 : Int)] wq fun e w' => (∃ v, e = .returned v) ∧ Tab w' B bm (k + 1) (stepR m p) ∧ Touch [bm] wq w') := by
  constructor
  · intro hc wq ht
    by_cases h0 : p.1 < 0
    · refine (cancel_neg ht p.1 _ h0).mono ?_
      rintro e w' ⟨rfl, rfl⟩
      unfold stepR
      rw [if_pos h0]
      exact ⟨⟨_, rfl⟩, ht.mono (by omega), Touch.refl _ _⟩
    · refine (cancel_ok ht (p.1, p.2.1) hok (by show 0 ≤ p.1; omega)).mono ?_
      rintro e w' ⟨rfl, h1, h2⟩
      unfold stepR
      rw [if_neg h0, if_pos hc]
      exact ⟨⟨_, rfl⟩, h1.mono (by omega), h2⟩
  · intro hc wq ht
    by_cases h0 : p.1 < 0
    · refine (add_neg ht p.1 _ h0).mono ?_
      rintro e w' ⟨rfl, rfl⟩
      unfold stepR
      rw [if_pos h0]
      exact ⟨⟨_, rfl⟩, ht.mono (by omega), Touch.refl _ _⟩
    · refine (add_ok ht hk (p.1, p.2.1) hok (by show 0 ≤ p.1; omega)).mono ?_
      rintro e w' ⟨rfl, h1, h2⟩
      unfold stepR
      rw [if_neg h0, if_neg (by rw [hc]; simp)]
      exact ⟨⟨_, rfl⟩, h1, h2⟩
theorem info28 : (Try.prog.info? 28).map (fun i => (i.zero, i.size, i.bytes)) = some (some (.agg #[.int .i64 0, .int .u32 0, .bool false]), 3, 16) := by kernel_rfl
theorem rcell_one (r : Rc) : ∀ u ∈ rcell r, u.oneCell' = true := by
  intro u hu
  simp only [rcell, List.mem_cons, List.not_mem_nil, or_false] at hu
  rcases hu with rfl | rfl | rfl <;> rfl
theorem Row.cells3 {w : World} {g n cap : Nat} {m : List Rc} (h : Row w 28 3 (.slice (some ⟨g, 0, none⟩) n cap) (m.map rcell)) {j : Nat} {r : Rc} (hj : m[j]? = some r) :
    w.cell? ⟨g, j * 3, none⟩ = some (.int .i64 r.1) ∧ w.cell? ⟨g, j * 3 + 1, none⟩ = some (.int .u32 (r.2 : Int)) ∧ w.cell? ⟨g, j * 3 + 2, none⟩ = some (.bool false) := by
  have hr := h.range (i := j) (c := rcell r) (by rw [List.getElem?_map, hj]; rfl)
  exact ⟨hr 0 _ rfl, hr 1 _ rfl, hr 2 _ rfl⟩
def LaidPost (l : List RP) (w : World) (e : Ending) (w' : World) : Prop := ∃ B bm vm, e = .returned (.tuple #[.pointer (some ⟨B, 0, none⟩), vm]) ∧ LInv w B bm l.length (laidR l) vm w'
theorem eq28 (a c : Int) (b d : Nat) (w : World) : (Op.equalIn 10000 28 (.agg #[.int .i64 a, .int .u32 (b : Int), .bool false]) (.agg #[.int .i64 c, .int .u32 (d : Int), .bool false])).run Try.prog w = .ok (decide (a = c ∧ b = d)) w := by
  by_cases h1 : a = c
  · by_cases h2 : b = d
    · subst h1 h2
      go_simp
    · have e2 : ((b : Int) == (d : Int)) = false := by simp; omega
      subst h1
      go_simp
  · have e1 : (a == c) = false := by simpa using h1
    go_simp
/-- the inner loop -/
structure NInv (m : List Rc) (x : Rc) (j : Nat) (v8 : Value) (W2 wi : World) : Prop where
  row : Row wi 28 3 v8 ((delR (m.take j) x).map rcell)
  vl : ∀ g, v8.ownBlock = some g → W2.heap.size ≤ g
  grow : Grow W2 wi
theorem NInv.pass {m : List Rc} {x : Rc} {j : Nat} {v8 : Value} {W2 wi wa : World} (h : NInv m x j v8 W2 wi) (hj : m[j]? = some x) (ht : Touch [] wi wa) : NInv m x (j + 1) v8 W2 wa where
  row := by rw [delR_step m j x x hj, if_pos rfl]; exact h.row.kept ht (by simp)
  vl := h.vl
  grow := Grow.trans h.grow (ht.below (Nat.le_refl _) (by simp))
theorem NInv.app {m : List Rc} {x r : Rc} {j : Nat} {v8 v' : Value} {W2 wi W' wa : World} (h : NInv m x j v8 W2 wi) (hj : m[j]? = some r) (hr : r ≠ x) (h1 : Touch [] wi W') (ha : AppAtE 28 3 W' v8 ((delR (m.take j) x).map rcell ++ [rcell r]) v' wa) (ht : Touch (ownL v8) W' wa) : NInv m x (j + 1) v' W2 wa where
  row := by rw [delR_step m j r x hj, if_neg hr, List.map_append]; exact ha.1
  vl := fun g hg => by
    rcases ha.2 with h2 | ⟨g', h2, h3⟩
    · exact h.vl g (h2 ▸ hg)
    · rw [hg] at h2; cases h2
      exact Nat.le_trans h.grow.size (Nat.le_trans h1.size h3)
  grow := Below.trans h.grow (((h1.mono (S' := ownL v8) (by simp)).trans ht (fun i hi => .inl hi)).below h.grow.size (fun g hg => h.vl g (ownL_mem.1 hg)))
theorem NInv.done {w : World} {B bm k : Nat} {m m' : List Rc} {x : Rc} {v8 : Value} {W2 wi wa : World} (h : NInv m x m.length v8 W2 wi) (ht : Touch [] wi wa) (hT : Tab W2 B bm k m') (hm : m' = delR m x) (hb : w.heap.size ≤ B) (hbm : w.heap.size ≤ bm) (hg : Grow w W2) (hp : ∀ r ∈ m', 0 ≤ r.1) (hl : m'.length ≤ k) : LInv w B bm k m' v8 wa where
  tab := (hT.kept (Touch.of_below (S := []) h.grow) (by simp) (by simp)).kept ht (by simp) (by simp)
  row := by have := h.row.kept ht (by simp); rw [List.take_length] at this; rw [hm]; exact this
  bl := hb
  bml := hbm
  vl := fun g hgg => by have := h.vl g hgg; have := hT.lt; have := hg.size; exact ⟨by omega, by omega, by omega⟩
  grow := Grow.trans hg (Grow.trans h.grow (ht.below (Nat.le_refl _) (by simp)))
  pos := hp
  len := hl
theorem NInv.added {w : World} {B bm k : Nat} {m m' : List Rc} {x : Rc} {v8 v' : Value} {W2 wi W' wa : World} (h : NInv m x m.length v8 W2 wi) (h1 : Touch [] wi W') (ha : AppAtE 28 3 W' v8 ((delR m x).map rcell ++ [rcell x]) v' wa) (ht : Touch (ownL v8) W' wa) (hT : Tab W2 B bm k m') (hm : m' = insR m x) (hb : w.heap.size ≤ B) (hbm : w.heap.size ≤ bm) (hg : Grow w W2) (hp : ∀ r ∈ m', 0 ≤ r.1) (hl : m'.length ≤ k) : LInv w B bm k m' v' wa := by
  have hvl : ∀ g, v'.ownBlock = some g → W2.heap.size ≤ g := fun g hg => by
    rcases ha.2 with h2 | ⟨g', h2, h3⟩
    · exact h.vl g (h2 ▸ hg)
    · rw [hg] at h2; cases h2
      exact Nat.le_trans h.grow.size (Nat.le_trans h1.size h3)
  have hgr : Grow W2 wa := Below.trans h.grow (((h1.mono (S' := ownL v8) (by simp)).trans ht (fun i hi => .inl hi)).below h.grow.size (fun g hg => h.vl g (ownL_mem.1 hg)))
  exact {
    tab := hT.kept (Touch.of_below (S := []) hgr) (by simp) (by simp)
    row := by rw [hm]; unfold insR; rw [List.map_append]; exact ha.1
    bl := hb
    bml := hbm
    vl := fun g hgg => by have := hvl g hgg; have := hT.lt; have := hg.size; exact ⟨by omega, by omega, by omega⟩
    grow := Grow.trans hg hgr
    pos := hp
    len := hl }
theorem stepR_neg {m : List Rc} (hp : ∀ r ∈ m, 0 ≤ r.1) {b : Int} {s : Nat} {c : Bool} (h : b < 0) : stepR m (b, s, c) = delR m (b, s) := by
  rw [delR_none hp h]; unfold stepR; rw [if_pos h]
theorem stepR_del {m : List Rc} (hp : ∀ r ∈ m, 0 ≤ r.1) (b : Int) (s : Nat) : stepR m (b, s, true) = delR m (b, s) := by
  by_cases h : b < 0
  · exact stepR_neg hp h
  · unfold stepR; rw [if_neg h]; rfl
theorem stepR_ins {m : List Rc} {b : Int} {s : Nat} (h : ¬ b < 0) : stepR m (b, s, false) = insR m (b, s) := by
  unfold stepR; rw [if_neg h]; rfl
set_option maxRecDepth 100000 in
set_option maxHeartbeats 4000000 in
theorem laid_ok {w : World} {v : Value} {l : List RP} (hp : RecsIn w v l) (hl : l.length ≤ 200) : Calls Try.prog 9 #[v] w (LaidPost l w) := by
  obtain ⟨ad, cap, rfl, hc⟩ := hp
  have HP := Lib.hid hc
  obtain ⟨L, hL⟩ : ∃ L, L = l.length := ⟨_, rfl⟩
  rw [← hL] at hl ⊢
  have HL := Lib.hid hL
  clear hc hL
  go_enter Try.func9, Try.ntmps9
  go_wp2_with fail
  refine (new_ok _).mono ?_
  intro e w1 hpost
  obtain ⟨B, bm, he, ht, hg, h1, h2⟩ := hpost
  subst he
  have HI := Lib.hid (show LInv w B bm 0 [] (.slice none 0 0) w1 from { tab := ht, row := rowNil _ _ _, bl := h1, bml := h2, vl := fun g hg => (by cases hg), grow := hg, pos := fun r hr => (by cases hr), len := Nat.le_refl _ })
  clear ht hg h1 h2
  go_wp2_with fail
  go_loopw [5, 6] (fun t5 t6 wr => ∃ (k : Nat), k ≤ L ∧ t6 = .int .i64 (k : Int) ∧ (∃ a5 n5 c5, t5 = .slice a5 n5 c5 ∧ (laidR (l.take k)).length = n5) ∧ Hid (LInv w B bm k (laidR (l.take k)) t5 wr)) (fun t5 t6 _ => L - (intOf t6).toNat)
  case atStart => exact ⟨0, by omega, rfl, ⟨none, 0, 0, rfl, rfl⟩, HI⟩
  case round =>
    obtain ⟨k, hk, rfl, ⟨a5, n5, c5, rfl, hn5⟩, HI⟩ := hrel
    by_cases hlt : k < L
    · have hkl : k < l.length := by rw [← HL.out]; exact hlt
      obtain ⟨p, hpk⟩ : ∃ p, l[k]? = some p := ⟨l[k], by simp [hkl]⟩
      have HPK := Lib.hid (laidR_snoc l k p hpk)
      obtain ⟨y, rfl, hyb, hc0, hc1, hc2, hok⟩ := HP.out k p hpk
      have HD := Lib.hid (doR (B := B) (bm := bm) (k := k) (m := laidR (l.take k)) (by omega) p hok)
      obtain ⟨b, s, c⟩ := p
      have hI := HI.out
      have HC0 := Lib.hid ((hI.grow.cell (p := y.add (k * 3)) (by rw [add_block]; exact hyb)).trans hc0)
      have HC1 := Lib.hid ((hI.grow.cell (p := (y.add (k * 3)).add 1) (by rw [add_block, add_block]; exact hyb)).trans hc1)
      have HC2 := Lib.hid ((hI.grow.cell (p := (y.add (k * 3)).add 2) (by rw [add_block, add_block]; exact hyb)).trans hc2)
      have HYB := Lib.hid hyb
      have HYL := Lib.hid (Nat.lt_of_lt_of_le hyb hI.grow.size)
      have HYP := Lib.hid (show y.block ∉ [wr.heap.size] by have := HYL.out; simp; omega)
      have HYM := Lib.hid (show y.block ∉ [bm] by have := hI.bml; simp; omega)
      clear hI hpk hc0 hc1 hc2 hyb hkl
      go_upto_region 6 with (fail)
      refine laid6_reg y L cap k s b wr HC0 HC1 HYL HYP hlt _ _ _ _ _ _ _ _ _ _ _ _ _ _ _ _ _ _ _ _ _ _ _ _ _ _ _ _ _ _ _ _ _ _ _ _ _ _ _ _ _ _ _ _ _ _ _ _ _ _ _ _ _ _ _ _ _ _ _ _ _ _ _ _ _ _ _ _ _ _ _ _ _ _ _ _ _ _ _ _ _ _ _ _ _ _ _ _ _ _ _ _ _ (Lib.hid ?_)
      intro u17 u18 u19 u20 u21 u22 u23 u24 u25 u26 u27 W1 hg1 hx1
      have HC0a := Lib.hid ((hg1.cell (p := y.add (k * 3)) (by rw [add_block]; exact HYL.out)).trans HC0.out)
      have HC1a := Lib.hid ((hg1.cell (p := (y.add (k * 3)).add 1) (by rw [add_block, add_block]; exact HYL.out)).trans HC1.out)
      have HC2a := Lib.hid ((hg1.cell (p := (y.add (k * 3)).add 2) (by rw [add_block, add_block]; exact HYL.out)).trans HC2.out)
      have HYLa := Lib.hid (Nat.lt_of_lt_of_le HYL.out hg1.size)
      have HT1 := Lib.hid (HI.out.tab.kept (Touch.of_below (S := []) hg1) (by simp) (by simp))
      have HRM1 := Lib.hid (HI.out.row.kept (Touch.of_below (S := []) hg1) (by simp))
      have HG1 := Lib.hid (Grow.trans HI.out.grow hg1)
      have HX1 := Lib.hid hx1
      have HPM := Lib.hid (show wr.heap.size ≠ bm by have := HI.out.tab.lt.2; omega)
      have HPL := Lib.hid (show w.heap.size ≤ wr.heap.size from HI.out.grow.size)
      obtain ⟨P, hP⟩ : ∃ P, P = wr.heap.size := ⟨_, rfl⟩
      rw [← hP] at HX1 HPM HPL
      rw [← hP]
      have HML := Lib.hid HI.out.len
      have HMP := Lib.hid HI.out.pos
      have HVL := Lib.hid HI.out.vl
      have HBL := Lib.hid HI.out.bl
      have HBM := Lib.hid HI.out.bml
      have HPG := Lib.hid (show ∀ g, (Value.slice a5 n5 c5).ownBlock = some g → g ≠ P from fun g hg => by have := HI.out.row.lt hg; omega)
      clear hg1 hx1 hP HI HC0 HC1 HC2 HYL HYP
      obtain ⟨m, hm⟩ : ∃ m, m = laidR (l.take k) := ⟨_, rfl⟩
      rw [← hm] at hn5 HPK HD HT1 HRM1 HML HMP
      clear hm
      have hcb : W1.cell? ⟨(y.add (k * 3)).block, (y.add (k * 3)).off + 2, none⟩ = some (.bool c) := HC2a.out
      obtain ⟨wo, rfl⟩ : ∃ wo : World, wo = wr := ⟨_, rfl⟩
      cases c with
      | true =>
        have HDD := Lib.hid (HD.out.1 rfl)
        go_upto_region 8 with (fail)
        refine laid8_reg B bm k (k + 1) m (stepR m (b, s, true)) y L cap k s b W1 HT1 HC0a HC1a HYLa HYM hlt HDD _ _ _ _ _ _ _ _ _ _ _ _ _ _ _ _ _ _ _ _ _ _ _ _ _ _ _ _ _ _ _ _ _ _ _ _ _ _ _ _ _ _ _ _ _ _ _ _ _ _ _ _ _ _ _ _ _ _ _ _ _ _ _ _ _ _ _ _ _ _ _ _ _ _ _ _ _ _ _ _ _ _ _ _ _ _ _ _ _ _ _ _ (Lib.hid ?_)
        intro u33 u34 u35 u36 u37 u38 u39 u40 u41 u42 u43 u44 W2 ht2 htab2
        have HT2 := Lib.hid htab2
        have HRM2 := Lib.hid (HRM1.out.kept ht2 (fun g hg hm => (HVL.out g hg).2.2 (List.mem_singleton.1 hm)))
        have HX2 := Lib.hid (show W2.heap[P]? = some (.cells #[.int .i64 b, .int .u32 (s : Int), .bool false] 28) from (ht2.block P (Array.getElem?_eq_some_iff.1 HX1.out).1 (by simpa using HPM.out)).trans HX1.out)
        have HG2 := Lib.hid (show Grow w W2 from Below.trans HG1.out (ht2.below HG1.out.size (by simpa using HBM.out)))
        have HC2b := Lib.hid ((ht2.cell (a := (y.add (k * 3)).add 2) (by rw [add_block, add_block]; exact HYLa.out) (by rw [add_block, add_block]; exact HYM.out)).trans HC2a.out)
        have HYLb := Lib.hid (Nat.lt_of_lt_of_le HYLa.out ht2.size)
        clear ht2 htab2 HT1 HRM1 HX1 HG1 HC0a HC1a HC2a HYLa hcb HD HDD
        go_wp2_with fail
        go_loopw [8, 9] (fun t8 t9 wi => ∃ (j : Nat), j ≤ n5 ∧ t9 = .int .i64 (j : Int) ∧ (∃ a8 n8 c8, t8 = .slice a8 n8 c8 ∧ (delR (m.take j) (b, s)).length = n8) ∧ Hid (NInv m (b, s) j t8 W2 wi)) (fun t8 t9 _ => n5 - (intOf t9).toNat)
        case atStart => exact ⟨0, by omega, rfl, ⟨none, 0, 0, rfl, rfl⟩, Lib.hid { row := rowNil _ _ _, vl := fun g hg => (by cases hg), grow := Grow.refl _ }⟩
        case round =>
          obtain ⟨wi, rfl⟩ : ∃ wi : World, wi = wr := ⟨_, rfl⟩
          obtain ⟨j, hj, rfl, ⟨a8, n8, c8, rfl, hn8⟩, HN⟩ := hrel
          have n5l : n5 ≤ 200 := by have := HML.out; omega
          by_cases hjt : j < n5
          · have hjm : j < m.length := by omega
            obtain ⟨r, hrj⟩ : ∃ r, m[j]? = some r := ⟨m[j], by simp [hjm]⟩
            have HRJ := Lib.hid hrj
            obtain ⟨gm, cm, hv, hgm, _, _⟩ := HRM2.out.open_ (by rw [List.length_map]; omega)
            rw [List.length_map, hn5] at hv
            cases hv
            obtain ⟨x0, x1, x2⟩ := (HRM2.out.kept (Touch.of_below (S := []) HN.out.grow) (by simp)).cells3 hrj
            have hxb : wi.heap[P]? = some (.cells #[.int .i64 b, .int .u32 (s : Int), .bool false] 28) := (HN.out.grow.block P (Array.getElem?_eq_some_iff.1 HX2.out).1).trans HX2.out
            have z0 := cell_at hxb 0
            have z1 := cell_at hxb 1
            have z2 := cell_at hxb 2
            have b0 : (0 : Int) ≤ (j : Int) := by omega
            have b1 : (j : Int) < (n5 : Int) := by omega
            clear hxb hgm hrj
            have t0 : (wi.drewN 0).heap = wi.heap := rfl
            obtain ⟨rb, rs⟩ := r
            dsimp only at x0 x1
            by_cases hre : ((rb, rs) : Rc) = (b, s)
            · cases hre
              go_upto_region 14 with (fail)
              go_quiet (fail)
              go_wp2_with fail
              go_roundw
              case rel =>
                have h2 := HN.out.pass HRJ.out (touch_drewN [] wi nq)
                refine ⟨j + 1, by omega, by go_num, ⟨a8, n8, c8, rfl, ?_⟩, Lib.hid h2⟩
                rw [delR_step m j _ _ HRJ.out, if_pos rfl]; exact hn8
              case measure => simp [intOf]; omega
            · have hq := fun w => (eq28 rb b rs s w).trans (by rw [decide_eq_false (fun h => hre (by rw [h.1, h.2]))])
              obtain ⟨i0, hi0, hz0, hz1, hz2⟩ := info_parts info28
              have HI0 := Lib.hid hi0
              clear hi0
              go_upto_region 14 with (fail)
              go_quiet (fail)
              go_wp2_with (first | (at_builtin; refine wpList_append_row rfl _ _ 22 rfl 28 i0 (.agg #[.int .i64 0, .int .u32 0, .bool false]) 3 16 Try.underlying22 HI0.out hz0 hz1 hz2 rfl (by omega) (.slice a8 n8 c8) ((delR (m.take j) (b, s)).map rcell) rfl (HN.out.row.kept ((touch_drewN [] wi nq).trans (Touch.alloc [] _ _) (by simp)) (by simp)) _ 1 (rcell (rb, rs)) rfl rfl (new_cells _ _ _) (rcell_one _) (by rw [List.length_map]; have := delR_len (m.take j) (b, s); have := List.length_take_le j m; have := HML.out; omega) (by omega) ?_; intro v' wa happ htch))
              have HN2 := Lib.hid (HN.out.app HRJ.out hre ((touch_drewN [] wi nq).trans (Touch.alloc [] _ _) (by simp)) happ htch)
              clear happ htch
              go_roundw
              case rel =>
                obtain ⟨aa, cc, hh⟩ := HN2.out.row.len
                exact ⟨j + 1, by omega, by go_num, ⟨aa, _, cc, hh, by simp⟩, HN2⟩
              case measure => simp [intOf]; omega
          · obtain rfl : j = n5 := by omega
            have HND := Lib.hid (show NInv m (b, s) m.length (.slice a8 n8 c8) W2 wi by rw [hn5]; exact HN.out)
            have hcb : wi.cell? ⟨(y.add (k * 3)).block, (y.add (k * 3)).off + 2, none⟩ = some (.bool true) := (HN.out.grow.cell (p := (y.add (k * 3)).add 2) (by rw [add_block, add_block]; exact HYLb.out)).trans HC2b.out
            have hxb : wi.heap[P]? = some (.cells #[.int .i64 b, .int .u32 (s : Int), .bool false] 28) := (HN.out.grow.block P (Array.getElem?_eq_some_iff.1 HX2.out).1).trans HX2.out
            have z0 := cell_at hxb 0
            have z1 := cell_at hxb 1
            have z2 := cell_at hxb 2
            clear hxb
            have k0 : (0 : Int) ≤ (k : Int) := by omega
            have k1 : (k : Int) < (L : Int) := by omega
            have HI2 := Lib.hid (HND.out.done (Touch.refl _ _) HT2.out (stepR_del HMP.out b s) HBL.out HBM.out HG2.out (stepR_pos HMP.out _) (stepR_len HML.out _))
            rw [← HPK.out] at HI2
            go_wp2_with fail
            go_roundw
            case rel =>
              obtain ⟨aa, cc, hh⟩ := HI2.out.row.len
              exact ⟨k + 1, by omega, by go_num, ⟨aa, _, cc, hh, by simp⟩, HI2⟩
            case measure => simp [intOf]; omega
      | false =>
        have HDD := Lib.hid (HD.out.2 rfl)
        go_upto_region 9 with (fail)
        refine laid9_reg B bm k (k + 1) m (stepR m (b, s, false)) y L cap k s b W1 HT1 HC0a HC1a HYLa HYM hlt HDD _ _ _ _ _ _ _ _ _ _ _ _ _ _ _ _ _ _ _ _ _ _ _ _ _ _ _ _ _ _ _ _ _ _ _ _ _ _ _ _ _ _ _ _ _ _ _ _ _ _ _ _ _ _ _ _ _ _ _ _ _ _ _ _ _ _ _ _ _ _ _ _ _ _ _ _ _ _ _ _ _ _ _ _ _ _ _ _ _ _ _ _ (Lib.hid ?_)
        intro u45 u46 u47 u48 u49 u50 u51 u52 u53 u54 u55 u56 W2 ht2 htab2
        have HT2 := Lib.hid htab2
        have HRM2 := Lib.hid (HRM1.out.kept ht2 (fun g hg hm => (HVL.out g hg).2.2 (List.mem_singleton.1 hm)))
        have HX2 := Lib.hid (show W2.heap[P]? = some (.cells #[.int .i64 b, .int .u32 (s : Int), .bool false] 28) from (ht2.block P (Array.getElem?_eq_some_iff.1 HX1.out).1 (by simpa using HPM.out)).trans HX1.out)
        have HG2 := Lib.hid (show Grow w W2 from Below.trans HG1.out (ht2.below HG1.out.size (by simpa using HBM.out)))
        have HC2b := Lib.hid ((ht2.cell (a := (y.add (k * 3)).add 2) (by rw [add_block, add_block]; exact HYLa.out) (by rw [add_block, add_block]; exact HYM.out)).trans HC2a.out)
        have HYLb := Lib.hid (Nat.lt_of_lt_of_le HYLa.out ht2.size)
        clear ht2 htab2 HT1 HRM1 HX1 HG1 HC0a HC1a HC2a HYLa hcb HD HDD
        go_wp2_with fail
        go_loopw [8, 9] (fun t8 t9 wi => ∃ (j : Nat), j ≤ n5 ∧ t9 = .int .i64 (j : Int) ∧ (∃ a8 n8 c8, t8 = .slice a8 n8 c8 ∧ (delR (m.take j) (b, s)).length = n8) ∧ Hid (NInv m (b, s) j t8 W2 wi)) (fun t8 t9 _ => n5 - (intOf t9).toNat)
        case atStart => exact ⟨0, by omega, rfl, ⟨none, 0, 0, rfl, rfl⟩, Lib.hid { row := rowNil _ _ _, vl := fun g hg => (by cases hg), grow := Grow.refl _ }⟩
        case round =>
          obtain ⟨wi, rfl⟩ : ∃ wi : World, wi = wr := ⟨_, rfl⟩
          obtain ⟨j, hj, rfl, ⟨a8, n8, c8, rfl, hn8⟩, HN⟩ := hrel
          have n5l : n5 ≤ 200 := by have := HML.out; omega
          by_cases hjt : j < n5
          · have hjm : j < m.length := by omega
            obtain ⟨r, hrj⟩ : ∃ r, m[j]? = some r := ⟨m[j], by simp [hjm]⟩
            have HRJ := Lib.hid hrj
            obtain ⟨gm, cm, hv, hgm, _, _⟩ := HRM2.out.open_ (by rw [List.length_map]; omega)
            rw [List.length_map, hn5] at hv
            cases hv
            obtain ⟨x0, x1, x2⟩ := (HRM2.out.kept (Touch.of_below (S := []) HN.out.grow) (by simp)).cells3 hrj
            have hxb : wi.heap[P]? = some (.cells #[.int .i64 b, .int .u32 (s : Int), .bool false] 28) := (HN.out.grow.block P (Array.getElem?_eq_some_iff.1 HX2.out).1).trans HX2.out
            have z0 := cell_at hxb 0
            have z1 := cell_at hxb 1
            have z2 := cell_at hxb 2
            have b0 : (0 : Int) ≤ (j : Int) := by omega
            have b1 : (j : Int) < (n5 : Int) := by omega
            clear hxb hgm hrj
            have t0 : (wi.drewN 0).heap = wi.heap := rfl
            obtain ⟨rb, rs⟩ := r
            dsimp only at x0 x1
            by_cases hre : ((rb, rs) : Rc) = (b, s)
            · cases hre
              go_upto_region 14 with (fail)
              go_quiet (fail)
              go_wp2_with fail
              go_roundw
              case rel =>
                have h2 := HN.out.pass HRJ.out (touch_drewN [] wi nq)
                refine ⟨j + 1, by omega, by go_num, ⟨a8, n8, c8, rfl, ?_⟩, Lib.hid h2⟩
                rw [delR_step m j _ _ HRJ.out, if_pos rfl]; exact hn8
              case measure => simp [intOf]; omega
            · have hq := fun w => (eq28 rb b rs s w).trans (by rw [decide_eq_false (fun h => hre (by rw [h.1, h.2]))])
              obtain ⟨i0, hi0, hz0, hz1, hz2⟩ := info_parts info28
              have HI0 := Lib.hid hi0
              clear hi0
              go_upto_region 14 with (fail)
              go_quiet (fail)
              go_wp2_with (first | (at_builtin; refine wpList_append_row rfl _ _ 22 rfl 28 i0 (.agg #[.int .i64 0, .int .u32 0, .bool false]) 3 16 Try.underlying22 HI0.out hz0 hz1 hz2 rfl (by omega) (.slice a8 n8 c8) ((delR (m.take j) (b, s)).map rcell) rfl (HN.out.row.kept ((touch_drewN [] wi nq).trans (Touch.alloc [] _ _) (by simp)) (by simp)) _ 1 (rcell (rb, rs)) rfl rfl (new_cells _ _ _) (rcell_one _) (by rw [List.length_map]; have := delR_len (m.take j) (b, s); have := List.length_take_le j m; have := HML.out; omega) (by omega) ?_; intro v' wa happ htch))
              have HN2 := Lib.hid (HN.out.app HRJ.out hre ((touch_drewN [] wi nq).trans (Touch.alloc [] _ _) (by simp)) happ htch)
              clear happ htch
              go_roundw
              case rel =>
                obtain ⟨aa, cc, hh⟩ := HN2.out.row.len
                exact ⟨j + 1, by omega, by go_num, ⟨aa, _, cc, hh, by simp⟩, HN2⟩
              case measure => simp [intOf]; omega
          · obtain rfl : j = n5 := by omega
            have HND := Lib.hid (show NInv m (b, s) m.length (.slice a8 n8 c8) W2 wi by rw [hn5]; exact HN.out)
            have hcb : wi.cell? ⟨(y.add (k * 3)).block, (y.add (k * 3)).off + 2, none⟩ = some (.bool false) := (HN.out.grow.cell (p := (y.add (k * 3)).add 2) (by rw [add_block, add_block]; exact HYLb.out)).trans HC2b.out
            have hxb : wi.heap[P]? = some (.cells #[.int .i64 b, .int .u32 (s : Int), .bool false] 28) := (HN.out.grow.block P (Array.getElem?_eq_some_iff.1 HX2.out).1).trans HX2.out
            have z0 := cell_at hxb 0
            have z1 := cell_at hxb 1
            have z2 := cell_at hxb 2
            clear hxb
            have k0 : (0 : Int) ≤ (k : Int) := by omega
            have k1 : (k : Int) < (L : Int) := by omega
            by_cases hb0 : b < 0
            · have d0 : decide (0 ≤ b) = false := by simp; omega
              have HI2 := Lib.hid (HND.out.done (Touch.refl _ _) HT2.out (stepR_neg HMP.out hb0) HBL.out HBM.out HG2.out (stepR_pos HMP.out _) (stepR_len HML.out _))
              rw [← HPK.out] at HI2
              go_wp2_with fail
              go_roundw
              case rel =>
                obtain ⟨aa, cc, hh⟩ := HI2.out.row.len
                exact ⟨k + 1, by omega, by go_num, ⟨aa, _, cc, hh, by simp⟩, HI2⟩
              case measure => simp [intOf]; omega
            · skip
              obtain ⟨i0, hi0, hz0, hz1, hz2⟩ := info_parts info28
              have HI0 := Lib.hid hi0
              clear hi0
              have d0 : decide (0 ≤ b) = true := by simp; omega
              have HROW := Lib.hid (show Row wi 28 3 (.slice a8 n8 c8) ((delR m (b, s)).map rcell) by have := HND.out.row; rw [List.take_length] at this; exact this)
              go_wp2_with (first | (at_builtin; refine wpList_append_row rfl _ _ 22 rfl 28 i0 (.agg #[.int .i64 0, .int .u32 0, .bool false]) 3 16 Try.underlying22 HI0.out hz0 hz1 hz2 rfl (by omega) (.slice a8 n8 c8) ((delR m (b, s)).map rcell) rfl (HROW.out.kept (Touch.alloc [] _ _) (by simp)) _ 1 (rcell (b, s)) rfl rfl (new_cells _ _ _) (rcell_one _) (by rw [List.length_map]; have := delR_len m (b, s); have := HML.out; omega) (by omega) ?_; intro v' wa happ htch))
              have HI2 := Lib.hid (HND.out.added (Touch.alloc [] _ _) happ htch HT2.out (stepR_ins hb0) HBL.out HBM.out HG2.out (stepR_pos HMP.out _) (stepR_len HML.out _))
              rw [← HPK.out] at HI2
              clear happ htch
              go_roundw
              case rel =>
                obtain ⟨aa, cc, hh⟩ := HI2.out.row.len
                exact ⟨k + 1, by omega, by go_num, ⟨aa, _, cc, hh, by simp⟩, HI2⟩
              case measure => simp [intOf]; omega
    · obtain rfl : k = L := by omega
      have HIL := Lib.hid (show LInv w B bm l.length (laidR l) (.slice a5 n5 c5) wr by have := HI.out; rw [HL.out, List.take_length] at this; exact this)
      clear HI
      go_wp2_with fail
      go_ret2
      exact ⟨B, bm, _, rfl, HIL.out⟩
#print axioms laid_ok
end Go.Proofs.Ytbpejjgjjjmlkaa
