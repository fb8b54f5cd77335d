/- What a cache tells: the plain side; blocks that are the same compare so. -/
import Derived.Test.YtmfofobmceflmaaC8
import Derived.ChangeKeysEq
set_option linter.unusedVariables false
set_option linter.unusedSimpArgs false
namespace Go.Proofs.Ytmfofobmceflmaa
open Go.RowKit Go.Maps

theorem plain5 : Try.prog.plainKey 5 = true := by kernel_rfl
theorem cells5 : Try.prog.cellsOf 5 = 1 := by kernel_rfl
theorem eqItems_same (x : Blk) (d : Nat) (w : World) : ∀ is : List Nat, (∀ i ∈ is, i < x.length) → (Op.eqItems (d + 1) 5 (Try.prog.cellsOf 5) (bc x).toArray (bc x).toArray is).run Try.prog w = .ok true w := by
  intro is
  induction is with
  | nil => intro _; simp [Op.eqItems]
  | cons i is ih =>
    intro h
    have hi := h i (by simp)
    have hget : (bc x).toArray[i * Try.prog.cellsOf 5]? = some (.int .u8 ((x[i] : Nat) : Int)) := by
      rw [cells5, Nat.mul_one]
      unfold bc
      simp [hi]
    have hp := run_part_plain (P := Try.prog) w plain5 hget
    simp only [Op.eqItems, Sem.run_bind, hp, Result.andThen_ok, run_equalIn_int w d 5 .u8 .u8 _ _ Try.underlying5, beq_self_eq_true, Bool.not_true, Bool.false_eq_true, if_false]
    exact ih (fun j hj => h j (by simp [hj]))
theorem info5 : (Try.prog.info? 5).map (fun i => (i.zero, i.size, i.bytes)) = some (some (.int .u8 0), 1, 1) := by kernel_rfl
theorem equal32 (x : Blk) (hx : x.length = 256) (w : World) : (Op.equalIn 10000 32 (.agg (bc x).toArray) (.agg (bc x).toArray)).run Try.prog w = .ok true w := by
  obtain ⟨i0, hi, _, _, _⟩ := info_parts info5
  rw [show (10000 : Nat) = 9999 + 1 from rfl, run_equalIn_array w 9999 _ _ Try.underlying32 hi]
  exact eqItems_same x 9998 w _ (fun i hi => by rw [hx]; exact List.mem_range.1 hi)
theorem neq32 (x : Blk) (hx : x.length = 256) (w : World) : (binOp .neq 32 (.agg (bc x).toArray) (.agg (bc x).toArray)).run Try.prog w = .ok (.bool false) w := by
  rw [run_neq_struct, equal32 x hx]; rfl
theorem eql32 (x : Blk) (hx : x.length = 256) (w : World) : (binOp .eql 32 (.agg (bc x).toArray) (.agg (bc x).toArray)).run Try.prog w = .ok (.bool true) w := by
  rw [run_eql_struct, equal32 x hx]; rfl
theorem guardT : Try.prog.eqGuardType Try.prog.depth 32 = false := by kernel_rfl
theorem guard32n (x y : Operand) (p q : Array Value) (w : World) : (eqGuard .neq 32 x y (.agg p) (.agg q)).run Try.prog w = .ok () w := by
  simp [eqGuard, guardT]
theorem guard32e (x y : Operand) (p q : Array Value) (w : World) : (eqGuard .eql 32 x y (.agg p) (.agg q)).run Try.prog w = .ok () w := by
  simp [eqGuard, guardT]
/-- the cache tells the blocks m -/
structure Tells (N : Nat) (m : List Blk) (s : CS) : Prop where
  len : m.length = N
  all : ∀ x ∈ m, x.length = 256
  has : ∀ (i : Nat) x t, s.f i = some (x, t) → m[i]? = some x
  disk : ∀ i : Nat, i < N → isDirty s.f i = false → s.d.last[i]? = m[i]?
theorem zeroB_length : zeroB.length = 256 := zeroHd
theorem Tells.new (N : Nat) : Tells N (List.replicate N zeroB) (newC (newD N)) where
  len := by simp
  all := fun x hx => by rw [(List.mem_replicate.1 hx).2]; exact zeroB_length
  has := fun i x t h => by cases h
  disk := fun i _ _ => rfl
theorem isDirty_put {f : Int → Option Hd} {b : Int} {x : Hd} (i : Int) : isDirty (putF f b x) i = if i = b then x.2 else isDirty f i := by
  unfold isDirty putF
  by_cases e : i = b
  · rw [if_pos e, if_pos e]
  · rw [if_neg e, if_neg e]
theorem isDirty_del {f : Int → Option Hd} {b : Int} (i : Int) : isDirty (delF f b) i = if i = b then false else isDirty f i := by
  unfold isDirty delF
  by_cases e : i = b
  · rw [if_pos e, if_pos e]
  · rw [if_neg e, if_neg e]
theorem isClean_put {f : Int → Option Hd} {p : Int → Bool} {b : Int} {x : Hd} (i : Int) : isClean (putF f b x) p i = if i = b then !x.2 && !p i else isClean f p i := by
  unfold isClean putF
  by_cases e : i = b
  · rw [if_pos e, if_pos e]
  · rw [if_neg e, if_neg e]
theorem isClean_del {f : Int → Option Hd} {p : Int → Bool} {b : Int} (i : Int) : isClean (delF f b) p i = if i = b then false else isClean f p i := by
  unfold isClean delF
  by_cases e : i = b
  · rw [if_pos e, if_pos e]
  · rw [if_neg e, if_neg e]
theorem Tells.write {N : Nat} {m : List Blk} {s : CS} (h : Tells N m s) (b : Nat) (hb : b < N) {x : Blk} (hx : x.length = 256) : Tells N (m.set b x) { s with f := putF s.f b (x, true) } where
  len := by rw [List.length_set]; exact h.len
  all := fun y hy => by
    rcases List.mem_or_eq_of_mem_set hy with h1 | h1
    · exact h.all y h1
    · rw [h1]; exact hx
  has := fun i y t hy => by
    show (m.set b x)[i]? = some y
    have hy : putF s.f b (x, true) i = some (y, t) := hy
    unfold putF at hy
    rw [List.getElem?_set]
    by_cases e : i = b
    · subst e
      rw [if_pos rfl] at hy; cases hy
      rw [if_pos rfl, if_pos (by rw [h.len]; exact hb)]
    · rw [if_neg (by omega)] at hy
      rw [if_neg (fun c => e c.symm)]; exact h.has i y t hy
  disk := fun i hi hd => by
    show s.d.last[i]? = (m.set b x)[i]?
    have hd : isDirty (putF s.f b (x, true)) i = false := hd
    rw [isDirty_put] at hd
    by_cases e : i = b
    · subst e; rw [if_pos rfl] at hd; cases hd
    · rw [if_neg (by omega)] at hd
      rw [List.getElem?_set, if_neg (fun c => e c.symm)]; exact h.disk i hi hd
theorem Tells.read {N : Nat} {m : List Blk} {s : CS} (h : Tells N m s) (b : Nat) (hb : b < N) (hf : s.f b = none) {x : Blk} (hx : s.d.last[b]? = some x) : m[b]? = some x ∧ Tells N m { s with f := putF s.f b (x, false) } := by
  have hm : m[b]? = some x := by rw [← h.disk b hb (by unfold isDirty; rw [hf])]; exact hx
  refine ⟨hm, { h with has := fun i y t hy => ?_, disk := fun i hi hd => ?_ }⟩
  · have hy : putF s.f b (x, false) i = some (y, t) := hy
    unfold putF at hy
    by_cases e : i = b
    · subst e; rw [if_pos rfl] at hy; cases hy; exact hm
    · rw [if_neg (by omega)] at hy; exact h.has i y t hy
  · have hd : isDirty (putF s.f b (x, false)) i = false := hd
    rw [isDirty_put] at hd
    by_cases e : i = b
    · subst e; show s.d.last[i]? = m[i]?; rw [hx, hm]
    · rw [if_neg (by omega)] at hd; exact h.disk i hi hd
theorem Tells.back {N : Nat} {m : List Blk} {s : CS} (h : Tells N m s) (b : Nat) (hb : b < N) (hl : s.d.last.length = N) : Tells N m (s.back b) := by
  by_cases hd : ∃ x, s.f b = some (x, true)
  · obtain ⟨x, hx⟩ := hd
    rw [back_dirty hx]
    have hm := h.has b x true hx
    refine { h with has := fun i y t hy => ?_, disk := fun i hi hd => ?_ }
    · have hy : putF s.f b (x, false) i = some (y, t) := hy
      unfold putF at hy
      by_cases e : i = b
      · subst e; rw [if_pos rfl] at hy; cases hy; exact hm
      · rw [if_neg (by omega)] at hy; exact h.has i y t hy
    · have hd : isDirty (putF s.f b (x, false)) i = false := hd
      show (s.d.last.set (b : Int).toNat x)[i]? = m[i]?
      rw [isDirty_put] at hd
      rw [List.getElem?_set, Int.toNat_natCast]
      by_cases e : i = b
      · subst e; rw [if_pos rfl, if_pos (by omega), hm]
      · rw [if_neg (by omega)] at hd; rw [if_neg (fun c => e c.symm)]; exact h.disk i hi hd
  · rw [back_idle (fun x hx => hd ⟨x, hx⟩)]; exact h
theorem Tells.del {N : Nat} {m : List Blk} {s : CS} (h : Tells N m s) (b : Int) (hb : isDirty s.f b = false) : Tells N m { s with f := delF s.f b } :=
  { h with
    has := fun i y t hy => by
      have hy : delF s.f b i = some (y, t) := hy
      unfold delF at hy
      by_cases e : (i : Int) = b
      · rw [if_pos e] at hy; cases hy
      · rw [if_neg e] at hy; exact h.has i y t hy
    disk := fun i hi hd => by
      have hd : isDirty (delF s.f b) i = false := hd
      rw [isDirty_del] at hd
      by_cases e : (i : Int) = b
      · rw [← e] at hb; exact h.disk i hi hb
      · rw [if_neg e] at hd; exact h.disk i hi hd }
theorem clean_not_dirty {f : Int → Option Hd} {p : Int → Bool} {i : Int} (h : isClean f p i = true) : isDirty f i = false := by
  unfold isClean at h
  unfold isDirty
  cases e : f i with
  | none => rfl
  | some y => rw [e] at h; simp at h; exact h.1
theorem Tells.wb {N : Nat} {m : List Blk} {s : CS} (h : Tells N m s) (hs : s.d.safe.length = N) (hl : s.d.last.length = N) (n : Int) : Tells N m (s.wb n) := by
  unfold CS.wb
  split
  · exact h
  · rename_i hne
    have hm := (selL_mem.1 (pickI_mem hne n)).1
    obtain ⟨b, hb⟩ : ∃ b : Nat, pickI (selL s.d.safe.length (isDirty s.f)) n = (b : Int) := ⟨(pickI (selL s.d.safe.length (isDirty s.f)) n).toNat, by omega⟩
    rw [hb] at hm ⊢
    exact h.back b (by omega) hl
theorem Tells.ev {N : Nat} {m : List Blk} {s : CS} (h : Tells N m s) (n : Int) : Tells N m (s.ev n) := by
  unfold CS.ev
  split
  · exact h
  · rename_i hne
    exact h.del _ (clean_not_dirty (selL_mem.1 (pickI_mem hne n)).2)
theorem CGood.wb {N k : Nat} {s : CS} (h : CGood N k s) (n : Int) : CGood N (k + 1) (s.wb n) := by
  unfold CS.wb
  split
  · exact h.more (Nat.le_succ k)
  · rename_i hne
    have hm := (selL_mem.1 (pickI_mem hne n)).1
    rw [h.safe] at hm
    obtain ⟨b, hb⟩ : ∃ b : Nat, pickI (selL s.d.safe.length (isDirty s.f)) n = (b : Int) := ⟨(pickI (selL s.d.safe.length (isDirty s.f)) n).toNat, by rw [h.safe]; omega⟩
    rw [h.safe] at hb ⊢
    rw [hb] at hm ⊢
    exact h.back b (by omega)
theorem CGood.ev {N k : Nat} {s : CS} (h : CGood N k s) (n : Int) : CGood N k (s.ev n) := by
  unfold CS.ev
  split
  · exact h
  · exact h.same rfl
theorem wb_p (s : CS) (n : Int) : (s.wb n).p = s.p := by
  unfold CS.wb CS.back
  split
  · rfl
  · split <;> rfl
theorem ev_p (s : CS) (n : Int) : (s.ev n).p = s.p := by
  unfold CS.ev
  split <;> rfl
#print axioms Tells.ev
end Go.Proofs.Ytmfofobmceflmaa
