/- What commit.actions goes over: the plan as a list, and what it reads. -/
import Derived.Test.YtieknecbheeekaaDoorN1
set_option linter.unusedVariables false
set_option linter.unusedSimpArgs false
namespace Go.Proofs.YtieknecbheeekaaDoor
open Go.RowKit Go.Maps Go.Shelf
theorem See.same {A B : World} {sz : Nat} {v : Value} {l : List (List Value)} (h : See A sz v l) (hb : ∀ q, v.ownBlock = some q → l ≠ [] → B.heap[q]? = A.heap[q]?) : See B sz v l := by
  obtain ⟨a, cap, hv, hi⟩ := h
  refine ⟨a, cap, hv, fun k c hk => ?_⟩
  obtain ⟨g, o, ha, hl, hr⟩ := hi k c hk
  have e := hb g (by rw [hv, ha]; rfl) (fun e => by rw [e] at hk; simp at hk)
  have hl2 : g < B.heap.size := by
    have : A.heap[g]? = some A.heap[g] := by simp [hl]
    exact (Array.getElem?_eq_some_iff.1 (e.trans this)).1
  exact ⟨g, o, ha, hl2, fun j u hj => (World.cell?_of_block e).trans (hr j u hj)⟩
theorem See.own_lt {w : World} {sz : Nat} {v : Value} {l : List (List Value)} (h : See w sz v l) (hl : l ≠ []) {q : Nat} (hq : v.ownBlock = some q) : q < w.heap.size := by
  obtain ⟨a, cap, hv, hi⟩ := h
  cases l with
  | nil => exact absurd rfl hl
  | cons c t =>
    obtain ⟨g, o, ha, hl, _⟩ := hi 0 c rfl
    rw [hv, ha] at hq
    have e : g = q := by simpa [Value.ownBlock] using hq
    rw [← e]; exact hl
/-- rows of blocks, as they are read -/
def BSee (w : World) (v : Value) (bs : List Blk) : Prop := See w 256 v (bs.map bc) ∧ ∀ b ∈ bs, b.length = 256
theorem BSee.of {w : World} {v : Value} {bs : List Blk} (h : BRow w v bs) : BSee w v bs := ⟨Row.see h, fun b hb => h.blk hb⟩
/-- an action -/
def acell (x : Nat × Int × Blk) : List Value := .int .u8 (x.1 : Int) :: .int .i64 x.2.1 :: bc x.2.2
def actV (x : Nat × Int × Blk) : Value := .agg (acell x).toArray
/-- the journal blocks but the last one, at their places -/
def firsts (ps : List Int) (bs : List Blk) : List (Nat × Int × Blk) := (ps.zip bs).dropLast.map fun x => (2, 2 + x.1, x.2)
def lasts (ps : List Int) (bs : List Blk) : List (Nat × Int × Blk) := match (ps.zip bs).getLast? with | none => [] | some x => [(2, 2 + x.1, x.2), (3, 0, zeroB)]
def plan (os ps : List Int) (hs bs : List Blk) : List (Nat × Int × Blk) := os.map (fun b => (1, b, zeroB)) ++ (hs.map (fun x => (2, 2, x)) ++ (firsts ps bs ++ ((3, 0, zeroB) :: lasts ps bs)))
/-- what the iterator reads: its cells and the rows -/
structure PSrc (Bo Bp Bh Bb : Nat) (vo vp vh vb : Value) (os ps : List Int) (hs bs : List Blk) (w : World) : Prop where
  o : w.heap[Bo]? = some (.cells #[vo] 26)
  p : w.heap[Bp]? = some (.cells #[vp] 26)
  h : w.heap[Bh]? = some (.cells #[vh] 57)
  b : w.heap[Bb]? = some (.cells #[vb] 57)
  os : ISee w vo os
  ps : ISee w vp ps
  hs : BSee w vh hs
  bs : BSee w vb bs
def srcT (Bo Bp Bh Bb : Nat) (vo vp vh vb : Value) (w : World) : List Nat := ([Bo, Bp, Bh, Bb] ++ (ownL vo ++ (ownL vp ++ (ownL vh ++ ownL vb)))).filter (fun q => decide (q < w.heap.size))
theorem srcT_lt {Bo Bp Bh Bb : Nat} {vo vp vh vb : Value} {w : World} : ∀ q ∈ srcT Bo Bp Bh Bb vo vp vh vb w, q < w.heap.size := fun q hq => of_decide_eq_true (List.mem_filter.1 hq).2
theorem PSrc.same {Bo Bp Bh Bb : Nat} {vo vp vh vb : Value} {os ps : List Int} {hs bs : List Blk} {w0 A B : World} (hs0 : PSrc Bo Bp Bh Bb vo vp vh vb os ps hs bs A) (h0 : PSrc Bo Bp Bh Bb vo vp vh vb os ps hs bs w0) (hk : ∀ q ∈ srcT Bo Bp Bh Bb vo vp vh vb w0, B.heap[q]? = A.heap[q]?) : PSrc Bo Bp Bh Bb vo vp vh vb os ps hs bs B := by
  have k : ∀ q, q < w0.heap.size → q ∈ [Bo, Bp, Bh, Bb] ++ (ownL vo ++ (ownL vp ++ (ownL vh ++ ownL vb))) → B.heap[q]? = A.heap[q]? := fun q hq hm => hk q (List.mem_filter.2 ⟨hm, decide_eq_true hq⟩)
  have l := fun {q : Nat} {o : Obj} (h : w0.heap[q]? = some o) => (Array.getElem?_eq_some_iff.1 h).1
  refine ⟨(k Bo (l h0.o) (by simp)).trans hs0.o, (k Bp (l h0.p) (by simp)).trans hs0.p, (k Bh (l h0.h) (by simp)).trans hs0.h, (k Bb (l h0.b) (by simp)).trans hs0.b, ⟨hs0.os.1.same ?_, hs0.os.2⟩, ⟨hs0.ps.1.same ?_, hs0.ps.2⟩, ⟨hs0.hs.1.same ?_, hs0.hs.2⟩, ⟨hs0.bs.1.same ?_, hs0.bs.2⟩⟩
  · exact fun q hq hl => k q (h0.os.1.own_lt hl hq) (by simp only [List.mem_append]; simp [ownL_mem.2 hq])
  · exact fun q hq hl => k q (h0.ps.1.own_lt hl hq) (by simp only [List.mem_append]; simp [ownL_mem.2 hq])
  · exact fun q hq hl => k q (h0.hs.1.own_lt hl hq) (by simp only [List.mem_append]; simp [ownL_mem.2 hq])
  · exact fun q hq hl => k q (h0.bs.1.own_lt hl hq) (by simp only [List.mem_append]; simp [ownL_mem.2 hq])
theorem PSrc.grow {Bo Bp Bh Bb : Nat} {vo vp vh vb : Value} {os ps : List Int} {hs bs : List Blk} {A B : World} (h : PSrc Bo Bp Bh Bb vo vp vh vb os ps hs bs A) (hg : Grow A B) : PSrc Bo Bp Bh Bb vo vp vh vb os ps hs bs B :=
  have l := fun {q : Nat} {o : Obj} (h : A.heap[q]? = some o) => (hg.block q (Array.getElem?_eq_some_iff.1 h).1).trans h
  ⟨l h.o, l h.p, l h.h, l h.b, ⟨h.os.1.grow hg, h.os.2⟩, ⟨h.ps.1.grow hg, h.ps.2⟩, ⟨h.hs.1.grow hg, h.hs.2⟩, ⟨h.bs.1.grow hg, h.bs.2⟩⟩
#print axioms PSrc.same
end Go.Proofs.YtieknecbheeekaaDoor
