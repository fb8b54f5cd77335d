/- The document's Table: without, Add, Cancel, Drop: the walks. -/
import Derived.Test.YtbpejjgjjjmlkaaR11
import Derived.Test.YtbpejjgjjjmlkaaR8
import Derived.Test.YtbpejjgjjjmlkaaR6
set_option linter.unusedVariables false
set_option linter.unusedSimpArgs false
namespace Go.Proofs.Ytbpejjgjjjmlkaa
open Go.RowKit Go.Maps

def pcell (r : Rc) : List Value := [.int .i64 r.1, .int .u32 (r.2 : Int)]
/-- the document's table of the records m -/
structure RTab (w : World) (R : Nat) (vl : Value) (m : List Rc) : Prop where
  obj : w.heap[R]? = some (.cells #[vl] 42)
  row : Row w 64 2 vl (m.map pcell)
  own : ∀ g, vl.ownBlock = some g → g ≠ R
theorem RTab.cell {w : World} {R : Nat} {vl : Value} {m : List Rc} (h : RTab w R vl m) : w.cell? ⟨R, 0, none⟩ = some vl := cell_at h.obj 0
theorem RTab.free {w : World} {R : Nat} {vl : Value} {m : List Rc} (h : RTab w R vl m) : w.frozen? ⟨R, 0, none⟩ = false := frozen_at h.obj 0
theorem RTab.lt {w : World} {R : Nat} {vl : Value} {m : List Rc} (h : RTab w R vl m) : R < w.heap.size := (Array.getElem?_eq_some_iff.1 h.obj).1
theorem RTab.kept {w w' : World} {R : Nat} {vl : Value} {m : List Rc} (h : RTab w R vl m) {T : List Nat} (ht : Touch T w w') (h1 : R ∉ T) (h2 : ∀ g, vl.ownBlock = some g → g ∉ T) : RTab w' R vl m :=
  ⟨(ht.block R h.lt h1).trans h.obj, h.row.kept ht h2, h.own⟩
theorem RTab.kept0 {w w' : World} {R : Nat} {vl : Value} {m : List Rc} (h : RTab w R vl m) (ht : Touch [] w w') : RTab w' R vl m := h.kept ht (by simp) (by simp)
theorem pcell_one (r : Rc) : ∀ u ∈ pcell r, u.oneCell' = true := by
  intro u hu
  simp only [pcell, List.mem_cons, List.not_mem_nil, or_false] at hu
  rcases hu with rfl | rfl <;> rfl
theorem info64 : (Try.prog.info? 64).map (fun i => (i.zero, i.size, i.bytes)) = some (some (.agg #[.int .i64 0, .int .u32 0]), 2, 16) := by kernel_rfl
theorem Row.cells2 {w : World} {g n cap : Nat} {m : List Rc} (h : Row w 64 2 (.slice (some ⟨g, 0, none⟩) n cap) (m.map pcell)) {j : Nat} {r : Rc} (hj : m[j]? = some r) :
    w.cell? ⟨g, j * 2, none⟩ = some (.int .i64 r.1) ∧ w.cell? ⟨g, j * 2 + 1, none⟩ = some (.int .u32 (r.2 : Int)) := by
  have hr := h.range (i := j) (c := pcell r) (by rw [List.getElem?_map, hj]; rfl)
  exact ⟨hr 0 _ rfl, hr 1 _ rfl⟩
theorem eq64 (a c : Int) (b d : Nat) (w : World) : (Op.equalIn 10000 64 (.agg #[.int .i64 a, .int .u32 (b : Int)]) (.agg #[.int .i64 c, .int .u32 (d : Int)])).run Try.prog w = .ok (decide (a = c ∧ b = d)) w := by
  by_cases h1 : a = c
  · by_cases h2 : b = d
    · subst h1 h2
      go_simp
    · have e2 : ((b : Int) == (d : Int)) = false := by simp; omega
      subst h1
      go_simp
  · have e1 : (a == c) = false := by simpa using h1
    go_simp
/-- a row that grows in a loop, in memory of its own -/
structure GInv (l : List Rc) (v : Value) (W wi : World) : Prop where
  row : Row wi 64 2 v (l.map pcell)
  vl : ∀ g, v.ownBlock = some g → W.heap.size ≤ g
  grow : Grow W wi
theorem GInv.start (W : World) : GInv [] (.slice none 0 0) W W := ⟨rowNil _ _ _, fun g h => (by cases h), Grow.refl _⟩
theorem GInv.pass {l : List Rc} {v : Value} {W wi wa : World} (h : GInv l v W wi) (ht : Touch [] wi wa) : GInv l v W wa :=
  ⟨h.row.kept ht (by simp), h.vl, Grow.trans h.grow (ht.below (Nat.le_refl _) (by simp))⟩
theorem GInv.app {l : List Rc} {r : Rc} {v v' : Value} {W wi W' wa : World} (h : GInv l v W wi) (h1 : Touch [] wi W') (ha : AppAtE 64 2 W' v (l.map pcell ++ [pcell r]) v' wa) (ht : Touch (ownL v) W' wa) : GInv (l ++ [r]) v' W wa where
  row := by rw [List.map_append]; exact ha.1
  vl := fun g hg => by
    rcases ha.2 with h2 | ⟨g', h2, h3⟩
    · exact h.vl g (h2 ▸ hg)
    · rw [hg] at h2; cases h2
      exact Nat.le_trans h.grow.size (Nat.le_trans h1.size h3)
  grow := Below.trans h.grow (((h1.mono (S' := ownL v) (by simp)).trans ht (fun i hi => .inl hi)).below h.grow.size (fun g hg => h.vl g (ownL_mem.1 hg)))
/-- the table gets a new row -/
theorem GInv.stored {l m : List Rc} {v vl : Value} {W wi : World} {R : Nat} (h : GInv l v W wi) (hr : RTab W R vl m) : (RTab (wi.setCell ⟨R, 0, none⟩ v) R v l ∧ ∀ g, v.ownBlock = some g → W.heap.size ≤ g) ∧ Touch [R] W (wi.setCell ⟨R, 0, none⟩ v) := by
  have hR := hr.lt
  have hob : wi.heap[R]? = some (.cells #[vl] 42) := (h.grow.block R hR).trans hr.obj
  have ht : Touch [R] wi (wi.setCell ⟨R, 0, none⟩ v) := Touch.setCell wi (by simp) v
  refine ⟨⟨?_, h.vl⟩, ?_⟩
  rotate_left
  · exact (Touch.of_below h.grow).trans ht (fun i hi => .inl hi)
  exact ⟨heap_set hob 0 v, h.row.kept ht (fun g e hm => by have := h.vl g e; rw [List.mem_singleton.1 hm] at this; omega), fun g e c => by have := h.vl g e; omega⟩
def WithoutPost (l : List Rc) (w : World) (e : Ending) (w' : World) : Prop := ∃ v, e = .returned v ∧ GInv l v w w'
set_option maxRecDepth 100000 in
set_option maxHeartbeats 2000000 in
theorem without_ok {w : World} {R : Nat} {vl : Value} {m : List Rc} (h : RTab w R vl m) (hl : m.length ≤ 100000) (b : Int) (s : Nat) :
    Calls Try.prog 33 #[.pointer (some ⟨R, 0, none⟩), .agg #[.int .i64 b, .int .u32 (s : Int)]] w (WithoutPost (delR m (b, s)) w) := by
  have HT := Lib.hid h
  obtain ⟨a1, c1, hvl⟩ := h.row.len
  rw [List.length_map] at hvl
  obtain ⟨n, hn⟩ : ∃ n, n = m.length := ⟨_, rfl⟩
  rw [← hn] at hvl hl
  subst hvl
  have HN := Lib.hid hn
  have HX := Lib.hid (show (w.alloc (.cells #[.int .i64 b, .int .u32 (s : Int)] 64)).heap[w.heap.size]? = some (.cells #[.int .i64 b, .int .u32 (s : Int)] 64) from heap_alloc_last _ _)
  have HG0 := Lib.hid (Grow.alloc w (.cells #[.int .i64 b, .int .u32 (s : Int)] 64))
  have HT0 := Lib.hid (HT.out.kept0 (Touch.alloc [] w (.cells #[.int .i64 b, .int .u32 (s : Int)] 64)))
  obtain ⟨i0, hi0, hz0, hz1, hz2⟩ := info_parts info64
  have HI0 := Lib.hid hi0
  clear h hn hi0
  go_enter Try.func33, Try.ntmps33
  go_wp2_with fail
  generalize w.alloc (.cells #[.int .i64 b, .int .u32 (s : Int)] 64) = W0 at *
  go_loopw [5, 6] (fun t5 t6 wr => ∃ (j : Nat), j ≤ n ∧ t6 = .int .i64 (j : Int) ∧ (∃ a5 n5 c5, t5 = .slice a5 n5 c5) ∧ Hid (GInv (delR (m.take j) (b, s)) t5 W0 wr)) (fun _ t6 _ => n - (intOf t6).toNat)
  case atStart => exact ⟨0, by omega, rfl, ⟨none, 0, 0, rfl⟩, Lib.hid (GInv.start W0)⟩
  case round =>
    obtain ⟨j, hj, rfl, ⟨a5, n5, c5, rfl⟩, HI⟩ := hrel
    have HTr := Lib.hid (HT0.out.kept0 (Touch.of_below HI.out.grow))
    have c0 := HTr.out.cell
    by_cases hlt : j < n
    · have hjm : j < m.length := by rw [← HN.out]; exact hlt
      obtain ⟨r, hr⟩ : ∃ r, m[j]? = some r := ⟨m[j], by simp [hjm]⟩
      obtain ⟨gm, cm, hv, _⟩ := HTr.out.row.open_ (by rw [List.length_map]; omega)
      rw [List.length_map, ← HN.out] at hv
      cases hv
      obtain ⟨x0, x1⟩ := HTr.out.row.cells2 hr
      have hxb := (HI.out.grow.block _ (Array.getElem?_eq_some_iff.1 HX.out).1).trans HX.out
      have z0 := cell_at hxb 0
      have z1 := cell_at hxb 1
      have HST := Lib.hid (delR_step m j r (b, s) hr)
      obtain ⟨rb, rs⟩ := r
      dsimp only at x0 x1
      have b0 : (0 : Int) ≤ (j : Int) := by omega
      have b1 : (j : Int) < (n : Int) := by omega
      clear hr hjm hxb
      by_cases hre : ((rb, rs) : Rc) = (b, s)
      · have HI2 := Lib.hid (show ∀ q, GInv (delR (m.take (j + 1)) (b, s)) (.slice a5 n5 c5) W0 (wr.drewN q) from fun q => by rw [HST.out, if_pos hre]; exact HI.out.pass (touch_drewN [] _ _))
        cases hre
        go_upto_region 5 with (fail)
        go_quiet (fail)
        go_wp2_with fail
        go_roundw
        case rel => exact ⟨j + 1, by omega, by go_num, ⟨a5, n5, c5, rfl⟩, Lib.hid (HI2.out _)⟩
        case measure => simp [intOf]; omega
      · have hq := fun w => (eq64 rb b rs s w).trans (by rw [decide_eq_false (fun h => hre (by rw [h.1, h.2]))])
        go_upto_region 5 with (fail)
        go_quiet (fail)
        go_wp2_with (first | (at_builtin; refine wpList_append_row rfl _ _ 40 rfl 64 i0 (.agg #[.int .i64 0, .int .u32 0]) 2 16 Try.underlying40 HI0.out hz0 hz1 hz2 rfl (by omega) (.slice a5 n5 c5) ((delR (m.take j) (b, s)).map pcell) rfl (HI.out.row.kept ((touch_drewN [] _ _).trans (Touch.alloc [] _ _) (by simp)) (by simp)) _ 1 (pcell (rb, rs)) rfl rfl (new_cells _ _ _) (pcell_one _) (by rw [List.length_map]; have := delR_len (m.take j) (b, s); have := List.length_take_le j m; omega) (by omega) ?_; intro v' wa happ htch))
        have HI2 := Lib.hid (show GInv (delR (m.take (j + 1)) (b, s)) v' W0 wa by rw [HST.out, if_neg hre]; exact HI.out.app ((touch_drewN [] _ _).trans (Touch.alloc [] _ _) (by simp)) happ htch)
        clear happ htch
        go_roundw
        case rel =>
          obtain ⟨aa, cc, hh⟩ := HI2.out.row.len
          exact ⟨j + 1, by omega, by go_num, ⟨aa, _, cc, hh⟩, HI2⟩
        case measure => simp [intOf]; omega
    · obtain rfl : j = n := by omega
      have HF := Lib.hid (show GInv (delR m (b, s)) (.slice a5 n5 c5) w wr from ⟨by have := HI.out.row; rw [HN.out, List.take_length] at this; exact this, fun g e => Nat.le_trans HG0.out.size (HI.out.vl g e), Grow.trans HG0.out HI.out.grow⟩)
      go_wp2_with fail
      go_ret
      exact ⟨_, rfl, HF.out⟩
#print axioms without_ok
set_option maxRecDepth 100000 in
set_option maxHeartbeats 2000000 in
theorem radd_ok {w : World} {R : Nat} {vl : Value} {m : List Rc} (h : RTab w R vl m) (hl : m.length ≤ 100000) (b : Int) (s : Nat) (h0 : ¬ b < 0) :
    Calls Try.prog 28 #[.pointer (some ⟨R, 0, none⟩), .int .i64 b, .int .u32 (s : Int)] w fun e w' => e = .returned (.int .i64 0) ∧ (∃ vl', RTab w' R vl' (insR m (b, s)) ∧ ∀ g, vl'.ownBlock = some g → w.heap.size ≤ g) ∧ Touch [R] w w' := by
  have HT := Lib.hid h
  have d0 : decide (b < 0) = false := by simpa using h0
  obtain ⟨i0, hi0, hz0, hz1, hz2⟩ := info_parts info64
  have HI0 := Lib.hid hi0
  clear h hi0
  go_enter Try.func28, Try.ntmps28
  go_wp2_with fail
  refine (without_ok HT.out hl b s).mono ?_
  intro e w1 hpost
  obtain ⟨v1, he, hI⟩ := hpost
  obtain ⟨a1, c1, hv1⟩ := hI.row.len
  subst hv1
  subst he
  have HI := Lib.hid hI
  clear hI
  generalize (List.map pcell (delR m (b, s))).length = n1 at *
  go_wp2_with (first | (at_builtin; refine wpList_append_row rfl _ _ 40 rfl 64 i0 (.agg #[.int .i64 0, .int .u32 0]) 2 16 Try.underlying40 HI0.out hz0 hz1 hz2 rfl (by omega) (.slice a1 n1 c1) ((delR m (b, s)).map pcell) rfl (HI.out.row.kept (Touch.alloc [] _ _) (by simp)) _ 1 (pcell (b, s)) rfl rfl (new_cells _ _ _) (pcell_one _) (by rw [List.length_map]; have := delR_len m (b, s); omega) (by omega) ?_; intro v' wa happ htch; obtain ⟨aa, cc, hvv⟩ := happ.1.len; generalize (List.map pcell (delR m (b, s)) ++ [pcell (b, s)]).length = nn at hvv; subst hvv; have HI2 := Lib.hid (show GInv (insR m (b, s)) _ w wa from HI.out.app (Touch.alloc [] _ _) happ htch); have hRc := (HT.out.kept0 (Touch.of_below HI2.out.grow)).cell; have hRf := (HT.out.kept0 (Touch.of_below HI2.out.grow)).free; clear happ htch))
  have HF := Lib.hid (HI2.out.stored HT.out)
  go_ret
  exact ⟨rfl, ⟨_, HF.out.1⟩, HF.out.2⟩
theorem radd_neg (w : World) (R : Value) (b : Int) (s : Value) (h0 : b < 0) : Calls Try.prog 28 #[R, .int .i64 b, s] w fun e w' => e = .returned (.int .i64 2) ∧ w = w' := by
  have d0 : decide (b < 0) = true := by simpa using h0
  go_enter Try.func28, Try.ntmps28
  go_wp2_with fail
  go_ret
  exact ⟨rfl, rfl⟩
theorem rcancel_neg (w : World) (R : Value) (b : Int) (s : Value) (h0 : b < 0) : Calls Try.prog 26 #[R, .int .i64 b, s] w fun e w' => e = .returned (.int .i64 2) ∧ w = w' := by
  have d0 : decide (b < 0) = true := by simpa using h0
  go_enter Try.func26, Try.ntmps26
  go_wp2_with fail
  go_ret
  exact ⟨rfl, rfl⟩
set_option maxHeartbeats 2000000 in
theorem rcancel_ok {w : World} {R : Nat} {vl : Value} {m : List Rc} (h : RTab w R vl m) (hl : m.length ≤ 100000) (b : Int) (s : Nat) (h0 : ¬ b < 0) :
    Calls Try.prog 26 #[.pointer (some ⟨R, 0, none⟩), .int .i64 b, .int .u32 (s : Int)] w fun e w' => e = .returned (.int .i64 0) ∧ (∃ vl', RTab w' R vl' (delR m (b, s)) ∧ ∀ g, vl'.ownBlock = some g → w.heap.size ≤ g) ∧ Touch [R] w w' := by
  have HT := Lib.hid h
  have d0 : decide (b < 0) = false := by simpa using h0
  clear h
  go_enter Try.func26, Try.ntmps26
  go_wp2_with fail
  refine (without_ok HT.out hl b s).mono ?_
  intro e w1 hpost
  obtain ⟨v1, he, hI⟩ := hpost
  obtain ⟨a1, c1, hv1⟩ := hI.row.len
  subst hv1
  subst he
  have HF := Lib.hid (hI.stored HT.out)
  have hRc := (HT.out.kept0 (Touch.of_below hI.grow)).cell
  have hRf := (HT.out.kept0 (Touch.of_below hI.grow)).free
  clear hI
  generalize (List.map pcell (delR m (b, s))).length = n1 at *
  go_wp2_with fail
  go_ret
  exact ⟨rfl, ⟨_, HF.out.1⟩, HF.out.2⟩
#print axioms rcancel_ok
end Go.Proofs.Ytbpejjgjjjmlkaa
