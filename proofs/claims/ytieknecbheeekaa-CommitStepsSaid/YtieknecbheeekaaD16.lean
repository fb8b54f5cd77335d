/- Disk.Crash: the walk. -/
import Derived.Test.YtieknecbheeekaaD14
set_option linter.unusedVariables false
set_option linter.unusedSimpArgs false
namespace Go.Proofs.Ytieknecbheeekaa
open Go.RowKit

theorem add_block (a : Addr) (n : Nat) : (a.add n).block = a.block := by unfold Addr.add; split <;> rfl
/-- flags that came in, apart from S -/
def Bools (w : World) (S : List Nat) (v : Value) (ks : List Bool) : Prop := ∃ a cap, v = .slice a ks.length cap ∧ ∀ i x, ks[i]? = some x → ∃ y : Addr, a = some y ∧ y.block < w.heap.size ∧ y.block ∉ S ∧ w.cell? (y.add i) = some (.bool x)
theorem Bools.nil (w : World) (S : List Nat) : Bools w S (.slice none 0 0) [] := ⟨none, 0, rfl, fun i x h => by simp at h⟩
/-- the writes that come through -/
def kept : List (Nat × Blk) → List Bool → List (Nat × Blk)
  | p :: ws, k :: ks => if k then p :: kept ws ks else kept ws ks
  | _, _ => []
theorem kept_snoc : ∀ (ws : List (Nat × Blk)) (ks : List Bool) (i : Nat) (p : Nat × Blk) (k : Bool), ws[i]? = some p → ks[i]? = some k → kept (ws.take (i + 1)) (ks.take (i + 1)) = kept (ws.take i) (ks.take i) ++ (if k then [p] else []) := by
  intro ws
  induction ws with
  | nil => intro ks i p k h; simp at h
  | cons q ws ih =>
    intro ks i p k hp hk
    cases ks with
    | nil => simp at hk
    | cons c ks =>
      cases i with
      | zero =>
        obtain rfl : q = p := by simpa using hp
        obtain rfl : c = k := by simpa using hk
        cases c <;> simp [kept]
      | succ i =>
        simp only [List.take_succ_cons, kept]
        rw [ih ks i p k (by simpa using hp) (by simpa using hk)]
        cases c <;> simp
theorem kept_all : ∀ (ws : List (Nat × Blk)) (ks : List Bool) (n : Nat), n = min ws.length ks.length → kept (ws.take n) (ks.take n) = kept ws ks := by
  intro ws
  induction ws with
  | nil => intro ks n h; simp [kept]
  | cons q ws ih =>
    intro ks n h
    cases ks with
    | nil => have : n = 0 := by simpa using h
             subst this; simp [kept]
    | cons c ks =>
      obtain ⟨n', rfl⟩ : ∃ n', n = n' + 1 := ⟨n - 1, by simp at h; omega⟩
      simp only [List.take_succ_cons, kept]
      rw [ih ks n' (by simp at h; omega)]
theorem Parts.lasted {w wz : World} {B : Nat} {S : List Nat} {d : DS} {gs cs gl cl : Nat} {vw : Value} (h : Parts w B S d gs cs gl cl vw) (ht : Touch [gl] w wz) (l : List Blk) (hl : l.length = d.safe.length)
    (hr : Row wz 44 256 (.slice (some ⟨gl, 0, none⟩) d.safe.length cl) (l.map bc)) : Parts wz B S { d with last := l } gs cs gl cl vw :=
  { obj := (ht.block B (h.lt B h.inB) (by simpa using h.bl)).trans h.obj
    safe := h.safe.kept ht (fun g e => by cases e; simpa using h.sl)
    last := hr
    waits := h.waits.kept ht (fun g e => by simpa using (h.bw g e).2.2)
    len := hl
    one := h.one
    most := h.most
    inB := h.inB
    inS := h.inS
    inL := h.inL
    inW := h.inW
    bs := h.bs
    bl := h.bl
    sl := h.sl
    bw := h.bw
    lt := fun k hk => Nat.lt_of_lt_of_le (h.lt k hk) ht.size }
def DS.crashed (d : DS) (ks : List Bool) : DS := { d with safe := applyW d.safe (kept d.ws ks), last := applyW d.safe (kept d.ws ks), ws := [], set := false, left := 0 }
end Go.Proofs.Ytieknecbheeekaa
