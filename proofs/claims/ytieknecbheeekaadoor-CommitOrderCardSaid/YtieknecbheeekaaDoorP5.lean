/- pack.Pack: what lies in memory between two rounds. -/
import Derived.Test.YtieknecbheeekaaDoorP4
import Derived.Test.YtieknecbheeekaaDoorR2
set_option linter.unusedVariables false
set_option linter.unusedSimpArgs false
namespace Go.Proofs.YtieknecbheeekaaDoor
open Go.RowKit Go.Maps Go.Shelf

theorem GRow.lt {w : World} {e sz : Nat} {v : Value} {l : List (List Value)} (h : GRow w e sz v l) {g : Nat} (hg : v.ownBlock = some g) : KindAt w g e := by
  rcases h.2 with ⟨rfl, _⟩ | ⟨g', o, cap, rfl, h2, h3, h4, h5, h6⟩
  · cases hg
  · cases hg; exact h4
theorem rowsN_done {n k : Nat} (h : k < rowsN 30 n) : doneR 30 n k < n := by
  unfold rowsN at h
  unfold doneR
  omega
theorem rowsN_done60 {n k : Nat} (h : k < rowsN 60 n) : doneR 60 n k < n := by
  unfold rowsN at h
  unfold doneR
  omega
/-- a part of what is seen -/
theorem See.part {w : World} {sz : Nat} {g o n cap : Nat} {l : List (List Value)} (h : See w sz (.slice (some ⟨g, o, none⟩) n cap) l) (d m c : Nat) (hd : d + m ≤ n) : See w sz (.slice (some ⟨g, o + d * sz, none⟩) m c) ((l.drop d).take m) := by
  obtain ⟨a, cap', hv, hat⟩ := h
  simp only [Value.slice.injEq] at hv
  obtain ⟨rfl, hn, rfl⟩ := hv
  have hl : ((l.drop d).take m).length = m := by rw [List.length_take, List.length_drop]; omega
  refine ⟨_, c, by rw [hl], fun k x hk => ?_⟩
  have hkm : k < m := by have := (List.getElem?_eq_some_iff.1 hk).1; omega
  rw [List.getElem?_take, if_pos hkm, List.getElem?_drop] at hk
  obtain ⟨g', o', he, hg, hr⟩ := hat (d + k) x hk
  cases he
  exact ⟨g, o + d * sz, rfl, hg, by rw [Nat.add_assoc, ← Nat.add_mul]; exact hr⟩
theorem CSee.part {w : World} {g o n cap : Nat} {cs : List Cp} (h : CSee w (.slice (some ⟨g, o, none⟩) n cap) cs) (d m c : Nat) (hd : d + m ≤ n) : CSee w (.slice (some ⟨g, o + d * 257, none⟩) m c) ((cs.drop d).take m) :=
  ⟨by rw [List.map_take, List.map_drop]; exact h.1.part d m c hd, fun c hc => h.2 c (List.mem_of_mem_drop (List.mem_of_mem_take hc))⟩
theorem ISee.part {w : World} {g o n cap : Nat} {zs : List Int} (h : ISee w (.slice (some ⟨g, o, none⟩) n cap) zs) (d m c : Nat) (hd : d + m ≤ n) : ISee w (.slice (some ⟨g, o + d * 1, none⟩) m c) ((zs.drop d).take m) :=
  ⟨by rw [List.map_take, List.map_drop]; exact h.1.part d m c hd, fun c hc => h.2 c (List.mem_of_mem_drop (List.mem_of_mem_take hc))⟩
/-- the transaction, the results, the blocks and the error: S are blocks that are others' -/
structure PkMem (W : World) (S : List Nat) (B VB EB BB RB seq : Nat) (vc vr vb : Value) (bl : List Blk) (er : Int) (wr : World) : Prop where
  tr : wr.heap[B]? = some (.cells #[.int .u32 (seq : Int), vc, vr] 28)
  v : wr.heap[VB]? = some (.cells #[.slice none 0 0] 57)
  e : wr.heap[EB]? = some (.cells #[.int .i64 0] 30)
  bb : wr.heap[BB]? = some (.cells #[vb] 57)
  rb : wr.heap[RB]? = some (.cells #[.int .i64 er] 30)
  row : BRow wr vb bl
  lo : ∀ q, vb.ownBlock = some q → W.heap.size ≤ q ∧ q ∉ S
  own : W.heap.size ≤ B ∧ B < VB ∧ VB < EB ∧ EB < BB ∧ BB < RB
  out : B ∉ S ∧ VB ∉ S ∧ EB ∉ S ∧ BB ∉ S ∧ RB ∉ S
  grow : Grow W wr
variable {W : World} {S : List Nat} {B VB EB BB RB seq : Nat} {vc vr vb : Value} {bl : List Blk} {er : Int} {wr : World}
theorem PkMem.keep (h : PkMem W S B VB EB BB RB seq vc vr vb bl er wr) {w' : World} (ht : Touch S wr w') (hS : ∀ q ∈ S, W.heap.size ≤ q) : PkMem W S B VB EB BB RB seq vc vr vb bl er w' where
  tr := (ht.block _ (Array.getElem?_eq_some_iff.1 h.tr).1 h.out.1).trans h.tr
  v := (ht.block _ (Array.getElem?_eq_some_iff.1 h.v).1 h.out.2.1).trans h.v
  e := (ht.block _ (Array.getElem?_eq_some_iff.1 h.e).1 h.out.2.2.1).trans h.e
  bb := (ht.block _ (Array.getElem?_eq_some_iff.1 h.bb).1 h.out.2.2.2.1).trans h.bb
  rb := (ht.block _ (Array.getElem?_eq_some_iff.1 h.rb).1 h.out.2.2.2.2).trans h.rb
  row := Row.kept h.row ht (fun q hq => (h.lo q hq).2)
  lo := h.lo
  own := h.own
  out := h.out
  grow := Below.trans h.grow (ht.below h.grow.size hS)
/-- the blocks of others are chosen anew -/
theorem PkMem.other (h : PkMem W S B VB EB BB RB seq vc vr vb bl er wr) (S' : List Nat) (h1 : ∀ q, vb.ownBlock = some q → q ∉ S') (h2 : B ∉ S' ∧ VB ∉ S' ∧ EB ∉ S' ∧ BB ∉ S' ∧ RB ∉ S') : PkMem W S' B VB EB BB RB seq vc vr vb bl er wr :=
  { h with lo := fun q hq => ⟨(h.lo q hq).1, h1 q hq⟩, out := h2 }
theorem PkMem.lt (h : PkMem W S B VB EB BB RB seq vc vr vb bl er wr) : RB < wr.heap.size := (Array.getElem?_eq_some_iff.1 h.rb).1
theorem Row.not_at {w : World} {v : Value} {l : List Blk} (h : BRow w v l) {q : Nat} (hq : v.ownBlock = some q) {c : Array Value} {t : TypeId} (hc : w.heap[q]? = some (.cells c t)) : t = 34 := by
  obtain ⟨C, hk⟩ := GRow.lt (Row.g h) hq
  rw [hc] at hk
  simp only [Option.some.injEq, Obj.cells.injEq] at hk
  exact hk.2.1
/-- .. and behind the call that puts them, ahead of the stores -/
theorem PkMem.mid (h : PkMem W S B VB EB BB RB seq vc vr vb bl er wr) {v' : Value} {bl' : List Blk} {w' : World} (hp : Put wr w' vb v' bl') : w'.heap[BB]? = some (.cells #[vb] 57) ∧ w'.heap[RB]? = some (.cells #[.int .i64 er] 30) := by
  have n2 : 57 ≠ 34 := by decide
  have n3 : 30 ≠ 34 := by decide
  exact ⟨(hp.touch.block BB (Array.getElem?_eq_some_iff.1 h.bb).1 (fun hm => n2 (Row.not_at h.row (ownL_mem.1 hm) h.bb))).trans h.bb, (hp.touch.block RB (Array.getElem?_eq_some_iff.1 h.rb).1 (fun hm => n3 (Row.not_at h.row (ownL_mem.1 hm) h.rb))).trans h.rb⟩
/-- an error is told: the results are stored -/
theorem PkMem.fail (h : PkMem W S B VB EB BB RB seq vc vr vb bl er wr) (z : Int) : ((wr.setCell ⟨VB, 0, none⟩ (.slice none 0 0)).setCell ⟨EB, 0, none⟩ (.int .i64 z)).heap[VB]? = some (.cells #[.slice none 0 0] 57) ∧ ((wr.setCell ⟨VB, 0, none⟩ (.slice none 0 0)).setCell ⟨EB, 0, none⟩ (.int .i64 z)).heap[EB]? = some (.cells #[.int .i64 z] 30) ∧ Grow W ((wr.setCell ⟨VB, 0, none⟩ (.slice none 0 0)).setCell ⟨EB, 0, none⟩ (.int .i64 z)) ∧ (∀ q ∈ S, ((wr.setCell ⟨VB, 0, none⟩ (.slice none 0 0)).setCell ⟨EB, 0, none⟩ (.int .i64 z)).heap[q]? = wr.heap[q]?) := by
  have o := h.own
  refine ⟨(Below.heap_setCell _ _ _ _ (by simp; omega)).trans (heap_set h.v 0 (.slice none 0 0)), heap_set ((Below.heap_setCell _ _ _ _ (by simp; omega)).trans h.e) 0 (.int .i64 z), (h.grow.setCell (p := ⟨VB, 0, none⟩) (by simp; omega) _).setCell (p := ⟨EB, 0, none⟩) (by simp; omega) _, fun q hq => ?_⟩
  exact (Below.heap_setCell _ _ _ _ (fun e => h.out.2.2.1 (by rw [← show q = EB from e]; exact hq))).trans (Below.heap_setCell _ _ _ _ (fun e => h.out.2.1 (by rw [← show q = VB from e]; exact hq)))
/-- blocks were put behind: they and the error are stored -/
theorem PkMem.put (h : PkMem W S B VB EB BB RB seq vc vr vb bl er wr) {v' : Value} {bl' : List Blk} {er' : Int} {w' : World} (hp : Put wr w' vb v' bl') (hS : ∀ q ∈ S, q < wr.heap.size) :
    PkMem W S B VB EB BB RB seq vc vr v' bl' er' ((w'.setCell ⟨BB, 0, none⟩ v').setCell ⟨RB, 0, none⟩ (.int .i64 er')) ∧ (∀ q ∈ S, ((w'.setCell ⟨BB, 0, none⟩ v').setCell ⟨RB, 0, none⟩ (.int .i64 er')).heap[q]? = wr.heap[q]?) := by
  have nob : ∀ q {c : Array Value} {t : TypeId}, wr.heap[q]? = some (.cells c t) → t ≠ 34 → q ∉ ownL vb := fun q c t hc hn hm => hn (Row.not_at h.row (ownL_mem.1 hm) hc)
  have n1 : 28 ≠ 34 := by decide
  have n2 : 57 ≠ 34 := by decide
  have n3 : 30 ≠ 34 := by decide
  have k := fun q {c : Array Value} {t : TypeId} (hc : wr.heap[q]? = some (.cells c t)) (hn : t ≠ 34) => (hp.touch.block q (Array.getElem?_eq_some_iff.1 hc).1 (nob q hc hn)).trans hc
  have o := h.own
  have hbb := k BB h.bb n2
  have hrb := k RB h.rb n3
  have hne : ∀ q, v'.ownBlock = some q → q ≠ BB ∧ q ≠ RB := fun q hq => ⟨fun e => n2 (Row.not_at hp.row hq (e ▸ hbb)), fun e => n3 (Row.not_at hp.row hq (e ▸ hrb))⟩
  have t2 : Touch [BB, RB] w' ((w'.setCell ⟨BB, 0, none⟩ v').setCell ⟨RB, 0, none⟩ (.int .i64 er')) := (Touch.setCell (S := [BB, RB]) w' (a := ⟨BB, 0, none⟩) (by simp) v').trans (Touch.setCell (S := [BB, RB]) _ (a := ⟨RB, 0, none⟩) (by simp) _) (fun i hi => .inl hi)
  have kk := fun q {c : Array Value} {t : TypeId} (hc : wr.heap[q]? = some (.cells c t)) (hn : t ≠ 34) (e1 : q ≠ BB) (e2 : q ≠ RB) => (t2.block q (Array.getElem?_eq_some_iff.1 (k q hc hn)).1 (by simp [e1, e2])).trans (k q hc hn)
  have g1 : Grow W w' := Below.trans h.grow (hp.touch.below h.grow.size (fun q hq => (h.lo q (ownL_mem.1 hq)).1))
  refine ⟨⟨kk B h.tr n1 (by omega) (by omega), kk VB h.v n2 (by omega) (by omega), kk EB h.e n3 (by omega) (by omega), ?_, ?_, ?_, ?_, h.own, h.out, ?_⟩, ?_⟩
  · exact (Below.heap_setCell _ _ _ _ (by simp; omega)).trans (heap_set hbb 0 v')
  · exact heap_set ((Below.heap_setCell _ _ _ _ (by simp; omega)).trans hrb) 0 (.int .i64 er')
  · exact Row.kept hp.row t2 (fun q hq => by have := hne q hq; simp [this.1, this.2])
  · intro q hq
    rcases hp.own with h1 | ⟨g, h1, h2⟩
    · exact h.lo q (h1 ▸ hq)
    · rw [hq] at h1; cases h1
      exact ⟨Nat.le_trans h.grow.size h2, fun hm => by have := hS q hm; omega⟩
  · exact Below.trans g1 (t2.below g1.size (fun q hq => by simp at hq; omega))
  · intro q hq
    have h1 : q ∉ ownL vb := fun hm => (h.lo q (ownL_mem.1 hm)).2 hq
    have h2 := hp.touch.block q (hS q hq) h1
    have h3 : q ∉ [BB, RB] := fun hm => by
      simp at hm
      rcases hm with rfl | rfl
      · exact h.out.2.2.2.1 hq
      · exact h.out.2.2.2.2 hq
    exact (t2.block q (Nat.lt_of_lt_of_le (hS q hq) hp.touch.size) h3).trans h2
#print axioms PkMem.put
end Go.Proofs.YtieknecbheeekaaDoor
