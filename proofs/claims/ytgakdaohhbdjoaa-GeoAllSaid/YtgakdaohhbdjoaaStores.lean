/- A region that draws its order and stores into some one-cell blocks: what stands of the world while it is on its way. -/
import Derived.Test.YtgakdaohhbdjoaaRound
import Derived.Below
import Derived.RangeFuncWrites
namespace Go.Proofs.Ytgakdaohhbdjoaa
open Go Go.RowKit
/-- T: the blocks that are stored into, and what is stored; all else is as it was -/
def WR (n₀ : Nat) (T : Nat → Option Value) (w w' : World) : Prop :=
  (∀ a : Addr, T a.block = none → w'.cell? a = w.cell? a) ∧ (∀ a, w'.frozen? a = w.frozen? a) ∧ (∀ a, (w.cell? a).isSome = true → (w'.cell? a).isSome = true) ∧
  (∀ b v, T b = some v → w.cell? ⟨b, 0, none⟩ = some v → w'.cell? ⟨b, 0, none⟩ = some v) ∧ KeepsOthers w w' ∧ Below n₀ w w' ∧ w'.heap.size = w.heap.size
theorem WR.refl (n₀ : Nat) (T : Nat → Option Value) (w : World) : WR n₀ T w w := ⟨fun _ _ => rfl, fun _ => rfl, fun _ h => h, fun _ _ _ h => h, KeepsOthers.refl w, Below.refl _ _, rfl⟩
theorem WR.trans {n₀ : Nat} {T : Nat → Option Value} {a b c : World} (h : WR n₀ T a b) (k : WR n₀ T b c) : WR n₀ T a c :=
  ⟨fun x hx => (k.1 x hx).trans (h.1 x hx), fun x => (k.2.1 x).trans (h.2.1 x), fun x hx => k.2.2.1 x (h.2.2.1 x hx), fun x v hx hv => k.2.2.2.1 x v hx (h.2.2.2.1 x v hx hv), h.2.2.2.2.1.trans k.2.2.2.2.1, h.2.2.2.2.2.1.trans k.2.2.2.2.2.1, k.2.2.2.2.2.2.trans h.2.2.2.2.2.2⟩
theorem WR.drew (n₀ : Nat) (T : Nat → Option Value) (w : World) : WR n₀ T w w.drew := ⟨fun _ _ => rfl, fun _ => rfl, fun _ h => h, fun _ _ _ h => h, KeepsOthers.drew w, (Below.refl _ _).drew, rfl⟩
theorem WR.store {n₀ b : Nat} {T : Nat → Option Value} {v : Value} (w : World) (hT : T b = some v) (hb : n₀ ≤ b) : WR n₀ T w (w.setCell ⟨b, 0, none⟩ v) := by
  refine ⟨fun a ha => World.cell?_setCell_other _ _ _ _ (fun e => ?_), fun a => World.frozen?_setCell _ _ _ _, fun a ha => ?_, fun b' v' hT' hv' => ?_, KeepsOthers.setCell _ _ _, (Below.refl _ _).setCell hb _, by simp⟩
  · rw [← e] at ha; rw [hT] at ha; cases ha
  · by_cases e : a = ⟨b, 0, none⟩
    · subst e; rw [World.cell?_setCell_same' _ _ _ ha]; rfl
    · rw [World.cell?_setCell_other _ _ _ _ (fun h => e h.symm)]; exact ha
  · by_cases e : b' = b
    · subst e
      rw [hT] at hT'
      cases hT'
      exact World.cell?_setCell_same' _ _ _ (by rw [hv']; rfl)
    · rw [World.cell?_setCell_other _ _ _ _ (fun h => e (by cases h; rfl))]; exact hv'
/-- a one-cell block holds that -/
def CellIs (b : Nat) (v : Value) : Value → World → Prop := fun _ w => w.cell? ⟨b, 0, none⟩ = some v
theorem cellIs_stab {n₀ b : Nat} {T : Nat → Option Value} {v : Value} (h : T b = some v) : Stab (WR n₀ T) (CellIs b v) := fun _ _ _ hr hx => hr.2.2.2.1 b v h hx
theorem cellIs_set {b : Nat} {v u : Value} {w : World} (h : (w.cell? ⟨b, 0, none⟩).isSome = true) : CellIs b v u (w.setCell ⟨b, 0, none⟩ v) := World.cell?_setCell_same' _ _ _ h
theorem CellIs.out {b : Nat} {v u : Value} {w : World} (h : CellIs b v u w) : w.cell? ⟨b, 0, none⟩ = some v := h
end Go.Proofs.Ytgakdaohhbdjoaa
