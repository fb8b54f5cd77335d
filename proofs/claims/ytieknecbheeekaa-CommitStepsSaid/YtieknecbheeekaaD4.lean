/- Disk.Read: the walk. -/
import Derived.Test.YtieknecbheeekaaD3
set_option linter.unusedVariables false
set_option linter.unusedSimpArgs false
namespace Go.Proofs.Ytieknecbheeekaa
open Go.RowKit

theorem results_row_tmp {P : Program} {fn : Func} {p q : Tmp} {ty : TypeId} (h : fn.results = #[.cell p ty, .tmp q]) (tmps : Array Value) (w : World) (g : Nat) (t : TypeId) (cs : Array Value) (fr : Nat × Nat) (d : TypeDesc) (v : Value)
    (hp : tmps.getD p undef = .pointer (some ⟨g, 0, none⟩)) (hg : w.heap[g]? = some (.cells cs t fr))
    (hu : P.underlying ty = some d) (hd : (match d with | .struct _ | .array _ _ => true | _ => false) = true) (hi : (P.info? ty).map (·.size) = some cs.size) (hv : tmps.getD q undef = v) :
    (results fn tmps).run P w = .ok (.tuple #[.agg cs, v]) w := by
  have hp' : tmps[p]?.getD undef = .pointer (some ⟨g, 0, none⟩) := by simpa using hp
  have hv' : tmps[q]?.getD undef = v := by simpa using hv
  simp [results, h, hp', hv', asAddr, run_loadVar_row w g t ty cs fr d hg hu hd hi]
theorem Row.get {w : World} {e : Nat} {g n cap : Nat} {l : List Blk} (h : Row w e 256 (.slice (some ⟨g, 0, none⟩) n cap) (l.map bc)) (i : Nat) (hi : i < l.length) : w.rangeAt g (i * 256) (bc l[i]) :=
  h.range (by simp [hi])
theorem Row.len256 {w : World} {e : Nat} {v : Value} {l : List Blk} (h : Row w e 256 v (l.map bc)) (x : Blk) (hx : x ∈ l) : x.length = 256 := by
  rw [← bc_length]; exact h.1 _ (List.mem_map_of_mem hx)
theorem heap_row_one {w w1 : World} {o : Obj} (h : Grow (w.alloc o) w1) : w1.heap[w.heap.size]? = some o := (h.block _ (by simp)).trans (heap_alloc_last w o)

end Go.Proofs.Ytieknecbheeekaa
