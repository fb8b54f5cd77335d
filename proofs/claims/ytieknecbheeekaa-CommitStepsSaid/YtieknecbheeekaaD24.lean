/- Load; the law DiskTold: the walk. -/
import Derived.Test.YtieknecbheeekaaD17
set_option linter.unusedVariables false
set_option linter.unusedSimpArgs false
namespace Go.Proofs.Ytieknecbheeekaa
open Go.RowKit

def loadD (l : List Blk) : DS := { safe := l, last := l, ws := [], acts := 0, set := false, left := 0 }
/-- a disk of an image has come -/
def LoadPost (l : List Blk) (w : World) (e : Ending) (w' : World) : Prop := ∃ B S, e = .returned (.tuple #[.pointer (some ⟨B, 0, none⟩), .int .i64 0]) ∧ IsDisk w' B S (loadD l) ∧ Grow w w' ∧ ∀ k ∈ S, w.heap.size ≤ k
theorem load_disk {w w1 w2 : World} {l : List Blk} (h1 : 1 ≤ l.length) (h2 : l.length ≤ 2048) {gs cs gl cl : Nat} (hs : Row w1 44 256 (.slice (some ⟨gs, 0, none⟩) l.length cs) (l.map bc)) (hgs : w.heap.size ≤ gs) (hg1 : Grow w w1)
    (hl : Row w2 44 256 (.slice (some ⟨gl, 0, none⟩) l.length cl) (l.map bc)) (hgl : w1.heap.size ≤ gl) (hg2 : Grow w1 w2) :
    IsDisk (w2.alloc (.cells #[.slice (some ⟨gs, 0, none⟩) l.length cs, .slice (some ⟨gl, 0, none⟩) l.length cl, .slice none 0 0, .int .i64 0, .bool false, .int .i64 0] 68)) w2.heap.size [w2.heap.size, gs, gl] (loadD l) := by
  have hs1 : gs < w1.heap.size := hs.lt rfl
  have hl1 : gl < w2.heap.size := hl.lt rfl
  have hsz := hg2.size
  have ht : ∀ o : Obj, Touch [] w2 (w2.alloc o) := fun o => Touch.alloc _ _ _
  refine ⟨gs, cs, gl, cl, .slice none 0 0, ?_⟩
  constructor
  · exact heap_alloc_last _ _
  · exact (hs.kept (Touch.of_below (S := []) hg2) (by simp)).kept (ht _) (by simp)
  · exact hl.kept (ht _) (by simp)
  · exact ⟨fun c hc => (by cases hc), World.ownsRow_nil _ _ _ _⟩
  · rfl
  · exact h1
  · exact h2
  · simp
  · simp
  · simp
  · intro g hg; cases hg
  · omega
  · omega
  · omega
  · intro g hg; cases hg
  · intro k hk
    simp at hk
    simp
    omega
theorem Row.storeB {w : World} {g n cap : Nat} {l : List Blk} (h : Row w 44 256 (.slice (some ⟨g, 0, none⟩) n cap) (l.map bc)) {i : Nat} {x : Blk} (hx : x.length = 256) (hi : i < l.length) :
    Row (w.setCells g (i * 256) (bc x)) 44 256 (.slice (some ⟨g, 0, none⟩) n cap) ((l.set i x).map bc) := by
  rw [List.map_set]
  exact h.store (by rw [bc_length]; exact hx) (by rw [List.length_map]; exact hi)
end Go.Proofs.Ytieknecbheeekaa
