/- The document's cache: Write, Back. -/
import Derived.Test.YtieknecbheeekaaK4
set_option linter.unusedVariables false
set_option linter.unusedSimpArgs false
namespace Go.Proofs.Ytieknecbheeekaa
open Go.RowKit Go.Maps

theorem wpList_build_to {P : Program} {ops : Array Oper} {rest : List Oper} {o : Oper} {a : Act} {w : World} {Q : Exit → Act → World → Prop} (hg : o.guard = none) (t : TypeId) (parts : Array (Nat × Operand)) (ho : o.op = .build t parts) (cells : Array Value)
    (hf : P.built t (parts.map fun (i, x) => (i, a.eval x)).toList = some cells) (h : wpList P ops Q rest (a.put o.dst (.agg cells)) w) : wpList P ops Q (o :: rest) a w :=
  wpList_build hg t parts ho (by rw [hf]; rfl) (by rw [hf]; exact h)
/-- one cell of an element is stored -/
theorem Row.put1 {w : World} {e sz g n cap : Nat} {l : List (List Value)} (h : Row w e sz (.slice (some ⟨g, 0, none⟩) n cap) l) {i j : Nat} {c : List Value} (hi : l[i]? = some c) (hj : j < sz) (v : Value) : Row (w.setCell ⟨g, i * sz + j, none⟩ v) e sz (.slice (some ⟨g, 0, none⟩) n cap) (l.set i (c.set j v)) := by
  obtain ⟨h1, h2⟩ := h
  have hil : i < l.length := (List.getElem?_eq_some_iff.1 hi).1
  have hcl : c.length = sz := h1 c (List.mem_of_getElem? hi)
  have hn : n = l.length := by
    rcases h2.2 with ⟨hv, _⟩ | ⟨g', cap', cur, hv, _⟩
    · cases hv
    · cases hv; rfl
  subst hn
  have hle : i * sz + sz ≤ l.length * sz := by
    have := Nat.mul_le_mul_right sz (show i + 1 ≤ l.length by omega)
    rw [Nat.add_mul] at this
    omega
  refine ⟨?_, ?_⟩
  · intro d hd
    rcases List.mem_or_eq_of_mem_set hd with h3 | h3
    · exact h1 d h3
    · rw [h3, List.length_set]; exact hcl
  · have h3 : (w.setCell ⟨g, i * sz + j, none⟩ v).ownsRow 0 e sz (.slice (some ⟨g, 0, none⟩) l.length cap) l.length (setMany l.flatten (i * sz + j) [v]) := own_setCells [v] (i * sz + j) w _ h2
    have h4 : setMany l.flatten (i * sz + j) [v] = (l.set i (c.set j v)).flatten := by
      rw [← flatten_set sz l i (c.set j v) h1 (by rw [List.length_set]; exact hcl) hil]
      apply List.ext_getElem?
      intro k
      rw [setMany_get _ _ _ _ (by rw [flatten_length sz l h1]; simp only [List.length_cons, List.length_nil]; omega), setMany_get _ _ _ _ (by rw [flatten_length sz l h1, List.length_set, hcl]; omega), List.length_set, hcl]
      simp only [List.length_cons, List.length_nil]
      by_cases a : i * sz + j = k
      · subst a
        rw [if_pos (by omega), if_pos (by omega), show i * sz + j - (i * sz + j) = 0 by omega, show i * sz + j - i * sz = j by omega, List.getElem?_set, if_pos rfl, if_pos (by omega)]
        rfl
      · rw [if_neg (by omega)]
        by_cases b : i * sz ≤ k ∧ k < i * sz + sz
        · rw [if_pos b, List.getElem?_set_ne (by omega)]
          have := flatten_get sz l i (k - i * sz) c h1 hi (by omega)
          rw [show i * sz + (k - i * sz) = k by omega] at this
          exact this
        · rw [if_neg b]
    rw [h4] at h3
    simpa using h3
/-- the document's list says what the map says -/
structure RcIs (L : List HE) (f : Int → Option Hd) : Prop where
  nd : (L.map HE.b).Nodup
  mem : ∀ b h, (⟨b, h⟩ : HE) ∈ L ↔ f b = some h
theorem RcIs.no_ {L : List HE} {f : Int → Option Hd} (h : RcIs L f) {b : Int} (hn : ∀ x ∈ L, x.b ≠ b) : f b = none := by
  cases e : f b with
  | none => rfl
  | some y => exact absurd rfl (hn ⟨b, y⟩ ((h.mem b y).2 e))
theorem RcIs.at_ {L : List HE} {f : Int → Option Hd} (h : RcIs L f) {i : Nat} {x : HE} (hx : L[i]? = some x) : f x.b = some x.h := (h.mem x.b x.h).1 (List.mem_of_getElem? hx)
theorem RcIs.start : RcIs [] (fun _ => none) := ⟨by simp, fun b h => by simp⟩
theorem RcIs.new {L L' : List HE} {f : Int → Option Hd} (h : RcIs L f) (e : HE) (hn : ∀ x ∈ L, x.b ≠ e.b) (hp : L'.Perm (e :: L)) : RcIs L' (putF f e.b e.h) where
  nd := by
    refine ((hp.map HE.b).nodup_iff).2 ?_
    rw [List.map_cons, List.nodup_cons]
    refine ⟨fun hm => ?_, h.nd⟩
    obtain ⟨x, hx, he⟩ := List.mem_map.1 hm
    exact hn x hx he
  mem := fun b y => by
    rw [hp.mem_iff, List.mem_cons]
    unfold putF
    by_cases hb : b = e.b
    · subst hb
      rw [if_pos rfl]
      constructor
      · rintro (h1 | h1)
        · rw [← h1]
        · exact absurd rfl (hn ⟨e.b, y⟩ h1)
      · intro h1
        cases h1
        exact .inl rfl
    · rw [if_neg hb, ← h.mem b y]
      constructor
      · rintro (h1 | h1)
        · rw [← h1] at hb; exact absurd rfl hb
        · exact h1
      · exact .inr
theorem RcIs.set {L : List HE} {f : Int → Option Hd} (h : RcIs L f) {i : Nat} {x : HE} (hx : L[i]? = some x) (e : HE) (hb : x.b = e.b) : RcIs (L.set i e) (putF f e.b e.h) where
  nd := by
    have hil := (List.getElem?_eq_some_iff.1 hx).1
    have : (L.set i e).map HE.b = L.map HE.b := by
      apply List.ext_getElem?
      intro k
      rw [List.map_set, List.getElem?_set]
      split
      · rename_i hk
        subst hk
        rw [List.length_map, if_pos hil, List.getElem?_map, hx, ← hb]; rfl
      · rfl
    rw [this]; exact h.nd
  mem := fun b y => by
    have hil := (List.getElem?_eq_some_iff.1 hx).1
    have hone : ∀ (j : Nat) z, L[j]? = some z → z.b = e.b → j = i := fun j z hj hz => by
      have hjl := (List.getElem?_eq_some_iff.1 hj).1
      exact (List.getElem?_inj (i := j) (j := i) (by rw [List.length_map]; exact hjl) h.nd).1 (by rw [List.getElem?_map, List.getElem?_map, hj, hx]; simp [hz, hb])
    unfold putF
    rw [List.mem_iff_getElem?]
    by_cases hbb : b = e.b
    · subst hbb
      rw [if_pos rfl]
      constructor
      · rintro ⟨j, hj⟩
        rw [List.getElem?_set] at hj
        split at hj
        · rename_i c
          exact congrArg some (congrArg HE.h (Option.some.inj hj))
        · rename_i c
          exact absurd (hone j _ hj rfl).symm c
      · intro h1
        cases h1
        exact ⟨i, by rw [List.getElem?_set, if_pos rfl, if_pos hil]⟩
    · rw [if_neg hbb, ← h.mem b y, List.mem_iff_getElem?]
      constructor
      · rintro ⟨j, hj⟩
        rw [List.getElem?_set] at hj
        split at hj
        · rename_i c
          exact absurd (congrArg HE.b (Option.some.inj hj)).symm hbb
        · exact ⟨j, hj⟩
      · rintro ⟨j, hj⟩
        refine ⟨j, ?_⟩
        rw [List.getElem?_set, if_neg]
        · exact hj
        · rintro rfl
          rw [hx] at hj
          cases hj
          exact hbb hb
/-- the document's cache behind a call -/
def RcPost (Q R : Nat) (V : List Nat) (n : Nat) (d : DS) (f : Int → Option Hd) (w w' : World) : Prop :=
  ∃ V' L', IsRC w' Q R V' d L' ∧ RcIs L' f ∧ L'.length ≤ n ∧ Touch V w w' ∧ ∀ k ∈ V', k ∈ V ∨ w.heap.size ≤ k
theorem rput_any {w : World} {Q R : Nat} {V : List Nat} {d : DS} {L : List HE} {f : Int → Option Hd} (h : IsRC w Q R V d L) (hr : RcIs L f) (hL : L.length ≤ 100000) (e : HE) (he : e.h.1.length = 256) :
    Calls Try.prog 26 #[.pointer (some ⟨Q, 0, none⟩), .agg (ec e).toArray] w fun en w' => (∃ v, en = .returned v) ∧ RcPost Q R V (L.length + 1) d (putF f e.b e.h) w w' := by
  by_cases c : ∃ x ∈ L, x.b = e.b
  · obtain ⟨x, hx, hb⟩ := c
    obtain ⟨i, hi⟩ := List.mem_iff_getElem?.1 hx
    refine (rput_has h (by omega) e he hr.nd i x hi hb).mono ?_
    rintro en w' ⟨h1, V', h2, h3, h4⟩
    exact ⟨h1, V', _, h2, hr.set hi e hb, by rw [List.length_set]; omega, h3, h4⟩
  · have hn : ∀ x ∈ L, x.b ≠ e.b := fun x hx hb => c ⟨x, hx, hb⟩
    refine (rput_new h hL e he hn).mono ?_
    rintro en w' ⟨h1, V', h2, h3, h4⟩
    exact ⟨h1, V', _, h2, hr.new e hn (putL_perm e L), by rw [putL_len]; omega, h3, h4⟩
#print axioms rput_any
set_option maxRecDepth 100000 in
set_option maxHeartbeats 2000000 in
theorem rcwrite_ok {w : World} {Q R : Nat} {V : List Nat} {d : DS} {L : List HE} {f : Int → Option Hd} (h : IsRC w Q R V d L) (hr : RcIs L f) (hL : L.length ≤ 100000) (b : Int) (x : Blk) (hx : x.length = 256) (hb : 0 ≤ b ∧ b < d.safe.length) :
    Calls Try.prog 9 #[.pointer (some ⟨Q, 0, none⟩), .int .i64 b, .agg (bc x).toArray] w fun en w' => en = .returned (.int .i64 0) ∧ RcPost Q R V (L.length + 1) d (putF f b (x, true)) w w' := by
  have hg1 := Grow.alloc w (.cells (bc x).toArray 44)
  have HG := Lib.hid hg1
  have HH := Lib.hid (h.grow hg1)
  have HI := Lib.hid (ris_any HH.out b)
  have HR := Lib.hid hr
  have HLL := Lib.hid hL
  have HB := Lib.hid (built_heldE b x hx true)
  have HXL := Lib.hid hx
  have HOB := Lib.hid (heap_alloc_last w (.cells (bc x).toArray 44))
  have HSz := Lib.hid (show (Try.prog.info? 44).map (·.size) = some (bc x).toArray.size by rw [List.size_toArray, bc_length, hx]; exact size32)
  rw [decide_eq_true hb] at HI
  clear h hr hL hx hb hg1
  go_enter Try.func9, Try.ntmps9
  go_wp2_with fail
  refine HI.out.mono ?_
  rintro en w' ⟨rfl, rfl⟩
  obtain ⟨BX, hBX⟩ : ∃ BX, BX = w.heap.size := ⟨_, rfl⟩
  have HOB2 := Lib.hid (show (w.alloc (.cells (bc x).toArray 44)).heap[BX]? = some (.cells (bc x).toArray 44) by rw [hBX]; exact HOB.out)
  rw [← hBX]
  clear hBX
  generalize w.alloc (.cells (bc x).toArray 44) = W1 at *
  have HP := Lib.hid (rput_any HH.out HR.out HLL.out ⟨b, (x, true)⟩ HXL.out)
  have HZ := Lib.hid (show (ec ⟨b, (x, true)⟩).toArray = (ec ⟨b, (x, true)⟩).toArray from rfl)
  generalize (ec ⟨b, (x, true)⟩).toArray = EA at HB HP
  clear HZ
  go_wp2_with (first
    | (refine wpList_load_row rfl 44 _ rfl BX rfl 44 (bc x).toArray (0, 0) _ HOB2.out Try.underlying44 rfl HSz.out ?_)
    | (refine wpList_build_to rfl 80 _ rfl EA (by simp only [List.map_toArray, List.map_cons, List.map_nil]; exact HB.out) ?_))
  refine HP.out.mono ?_
  rintro en w2 ⟨⟨v, rfl⟩, V', L', h1, h2, h3, h4, h5⟩
  have HF := Lib.hid (show RcPost Q R V (L.length + 1) d (putF f b (x, true)) w w2 from ⟨V', L', h1, h2, h3, (Touch.of_below HG.out).trans h4 (fun k hk => .inl hk), fun k hk => (h5 k hk).imp id (Nat.le_trans HG.out.size)⟩)
  clear h1 h2 h3 h4 h5
  go_wp2_with fail
  go_ret
  exact ⟨rfl, HF.out⟩
#print axioms rcwrite_ok
theorem rcwrite_no {w : World} {Q R : Nat} {V : List Nat} {d : DS} {L : List HE} (h : IsRC w Q R V d L) (b : Int) (x : Blk) (hb : ¬ (0 ≤ b ∧ b < d.safe.length)) :
    Calls Try.prog 9 #[.pointer (some ⟨Q, 0, none⟩), .int .i64 b, .agg (bc x).toArray] w fun en w' => en = .returned (.int .i64 2) ∧ Grow w w' := by
  have HG := Lib.hid (Grow.alloc w (.cells (bc x).toArray 44))
  have HI := Lib.hid (ris_any (h.grow HG.out) b)
  rw [decide_eq_false hb] at HI
  clear h hb
  go_enter Try.func9, Try.ntmps9
  go_wp2_with fail
  refine HI.out.mono ?_
  rintro en w' ⟨rfl, rfl⟩
  go_wp2_with fail
  go_ret
  exact ⟨rfl, HG.out⟩
#print axioms rcwrite_no
end Go.Proofs.Ytieknecbheeekaa
