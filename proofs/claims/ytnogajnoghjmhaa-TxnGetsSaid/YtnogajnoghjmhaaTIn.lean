/- Rows that came in: acts. -/
import Derived.Test.YtnogajnoghjmhaaT16
set_option linter.unusedVariables false
namespace Go.Proofs.Ytnogajnoghjmhaa
open Go.RowKit

def ActAt (w : World) (x : Addr) (p : AP) : Prop := w.cell? x = some (.int .u8 (p.k : Int)) ∧ w.cell? (x.add 1) = some (.int .i64 p.at_) ∧ w.cell? (x.add 2) = some (.int .i64 p.more) ∧ w.cell? (x.add 3) = some (.int .u32 (p.fill : Int)) ∧ p.ok
def ActsIn (w : World) (v : Value) (l : List AP) : Prop := ∃ a cap, v = .slice a l.length cap ∧ ∀ i p, l[i]? = some p → ∃ y : Addr, a = some y ∧ y.block < w.heap.size ∧ ActAt w (y.add (i * 4)) p
theorem ActsIn.grow {w w' : World} {v : Value} {l : List AP} (h : ActsIn w v l) (hg : Grow w w') : ActsIn w' v l := by
  obtain ⟨a, cap, hv, h⟩ := h
  refine ⟨a, cap, hv, fun i p hp => ?_⟩
  obtain ⟨y, h1, h2, c0, c1, c2, c3, h3⟩ := h i p hp
  have hb : ∀ k, (y.add k).block < w.heap.size := fun k => by rw [add_block]; exact h2
  exact ⟨y, h1, Nat.lt_of_lt_of_le h2 hg.size, (hg.cell (hb _)).trans c0, (hg.cell (by rw [add_block]; exact hb _)).trans c1, (hg.cell (by rw [add_block]; exact hb _)).trans c2, (hg.cell (by rw [add_block]; exact hb _)).trans c3, h3⟩
end Go.Proofs.Ytnogajnoghjmhaa
