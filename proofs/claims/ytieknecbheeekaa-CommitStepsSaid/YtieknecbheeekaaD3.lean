/- disk.New: the walk. -/
import Derived.Test.YtieknecbheeekaaD2
import Derived.RegionTactic
set_option linter.unusedVariables false
set_option linter.unusedSimpArgs false
namespace Go.Proofs.Ytieknecbheeekaa
open Go.RowKit

theorem may_yes (n : Int) (h1 : 1 ≤ n) (h2 : n ≤ 2048) (w : World) : Calls Try.prog 21 #[.int .i64 n] w fun e w' => e = .returned (.bool true) ∧ w = w' := by
  have d1 : decide (1 ≤ n) = true := by simpa using h1
  have d2 : decide (n ≤ 2048) = true := by simpa using h2
  go_enter Try.func21, Try.ntmps21
  go_wp2
  go_ret
  exact ⟨rfl, rfl⟩
theorem may_no (n : Int) (h : ¬ (1 ≤ n ∧ n ≤ 2048)) (w : World) : Calls Try.prog 21 #[.int .i64 n] w fun e w' => e = .returned (.bool false) ∧ w = w' := by
  by_cases h1 : 1 ≤ n
  · have d1 : decide (1 ≤ n) = true := by simpa using h1
    have d2 : decide (n ≤ 2048) = false := by simp; omega
    go_enter Try.func21, Try.ntmps21
    go_wp2
    go_ret
    exact ⟨rfl, rfl⟩
  · have d1 : decide (1 ≤ n) = false := by simpa using h1
    go_enter Try.func21, Try.ntmps21
    go_wp2
    go_ret
    exact ⟨rfl, rfl⟩
theorem info32b : (Try.prog.info? 44).map (fun i => (i.zero, i.size, i.bytes)) = some (some (.agg (bc zeroB).toArray), 256, 256) := by kernel_rfl
theorem flat_rep (n : Nat) : (List.replicate n (bc zeroB)).flatten = List.replicate (n * 256) (.int .u8 0) := by
  rw [bc_zero, List.flatten_replicate_replicate]
theorem made_zero (n : Nat) : (madeCells (bc zeroB).toArray (n * 256)).toList = (List.replicate n (bc zeroB)).flatten := by
  rw [flat_rep]
  apply List.ext_getElem?
  intro k
  by_cases hk : k < n * 256
  · have hz : (bc zeroB).toArray[k % 256]! = .int .u8 0 := by
      have := zero_get (k % 256) (Nat.mod_lt _ (by omega))
      rw [getElem!_def, this]
    rw [List.getElem?_replicate, if_pos hk]
    simp only [madeCells, Array.toList_map, List.getElem?_map, Array.toList_range, List.getElem?_range hk, Option.map_some, zero_size, hz]
  · rw [List.getElem?_eq_none (by rw [Array.length_toList, size_madeCells]; omega), List.getElem?_eq_none (by rw [List.length_replicate]; omega)]
theorem mk_run (n : Nat) (hn : n ≤ 4096) : ∃ M : Array Value, M.toList = (List.replicate n (bc zeroB)).flatten ∧ ∀ w : World, (Instr.makeSlice 59 (.int .i64 (n : Int)) (.int .i64 (n : Int))).run Try.prog w = .ok (.slice (some ⟨w.heap.size, 0, none⟩) n n) (w.alloc (.cells M 44)) := by
  obtain ⟨i0, hi, hz0, hz1, hz2⟩ := info_parts info32b
  refine ⟨madeCells (bc zeroB).toArray (n * 256), made_zero n, fun w => ?_⟩
  have hr := run_make (P := Try.prog) w 59 44 i0 _ Try.underlying59 hi hz0 .i64 .i64 n n (by omega) (Int.le_refl _) (by rw [hz2]; omega) (by omega)
  simp only [Int.toNat_natCast, hz1] at hr
  exact hr
theorem row_new {w' : World} {n : Nat} {M : Array Value} {g : Nat} (hn : n ≤ 4096) (hM : M.toList = (List.replicate n (bc zeroB)).flatten) (hg : w'.heap[g]? = some (.cells M 44)) :
    Row w' 44 256 (.slice (some ⟨g, 0, none⟩) n n) ((List.replicate n zeroB).map bc) := by
  have e1 : (List.replicate n zeroB).map bc = List.replicate n (bc zeroB) := List.map_replicate
  have hl : ∀ c ∈ List.replicate n (bc zeroB), c.length = 256 := by
    intro c hc
    rw [(List.mem_replicate.1 hc).2, bc_zero, List.length_replicate]
  have hs : M.size = n * 256 := by rw [← Array.length_toList, hM, flatten_length 256 _ hl, List.length_replicate]
  rw [e1]
  refine ⟨hl, by rw [flatten_length 256 _ hl], .inr ⟨g, n, M, by simp, Nat.zero_le _, hg, by simp, by unfold maxLen; omega, by simpa using hs, ?_⟩⟩
  rw [List.length_replicate, ← hM, ← hs, ← Array.length_toList, List.take_length]

def newD (n : Nat) : DS := { safe := List.replicate n zeroB, last := List.replicate n zeroB, ws := [], acts := 0, set := false, left := 0 }
theorem new_bad (n : Int) (h : ¬ (1 ≤ n ∧ n ≤ 2048)) (w : World) : Calls Try.prog 4 #[.int .i64 n] w fun e w' => e = .returned (.tuple #[.pointer none, .int .i64 2]) ∧ w = w' := by
  have HN := Lib.hid h
  clear h
  go_enter Try.func4, Try.ntmps4
  go_wp2_with fail
  refine (may_no n HN.out _).mono ?_
  rintro e w' ⟨rfl, rfl⟩
  go_wp2_with fail
  go_ret2
  exact ⟨rfl, rfl⟩
/-- a new disk has come -/
def NewPost (n : Nat) (w : World) (e : Ending) (w' : World) : Prop := ∃ B S, e = .returned (.tuple #[.pointer (some ⟨B, 0, none⟩), .int .i64 0]) ∧ IsDisk w' B S (newD n) ∧ Grow w w' ∧ ∀ k ∈ S, w.heap.size ≤ k
theorem new_disk (n : Nat) (h1 : 1 ≤ n) (h2 : n ≤ 2048) (w : World) (M : Array Value) (hM : M.toList = (List.replicate n (bc zeroB)).flatten) (gs gl : Nat) (hg : (gs = w.heap.size ∧ gl = w.heap.size + 1) ∨ (gs = w.heap.size + 1 ∧ gl = w.heap.size)) :
    IsDisk (((w.alloc (.cells M 44)).alloc (.cells M 44)).alloc (.cells #[.slice (some ⟨gs, 0, none⟩) n n, .slice (some ⟨gl, 0, none⟩) n n, .slice none 0 0, .int .i64 0, .bool false, .int .i64 0] 68)).drew (w.heap.size + 1 + 1) [w.heap.size + 1 + 1, w.heap.size, w.heap.size + 1] (newD n) := by
  have hw0 : ((w.alloc (.cells M 44)).alloc (.cells M 44)).heap[w.heap.size]? = some (.cells M 44) := heap_one _ _ _
  have hw1 : ((w.alloc (.cells M 44)).alloc (.cells M 44)).heap[w.heap.size + 1]? = some (.cells M 44) := heap_two _ _ _
  have hs : ((w.alloc (.cells M 44)).alloc (.cells M 44)).heap.size = w.heap.size + 1 + 1 := by simp
  generalize (w.alloc (.cells M 44)).alloc (.cells M 44) = W at *
  have hB : ∀ o : Obj, (W.alloc o).heap[w.heap.size + 1 + 1]? = some o := fun o => by rw [← hs]; exact heap_alloc_last W o
  have h0 : ∀ o : Obj, (W.alloc o).heap[w.heap.size]? = some (.cells M 44) := fun o => (Below.heap_alloc W o _ (by omega)).trans hw0
  have h1' : ∀ o : Obj, (W.alloc o).heap[w.heap.size + 1]? = some (.cells M 44) := fun o => (Below.heap_alloc W o _ (by omega)).trans hw1
  have hgs : ∀ o : Obj, (W.alloc o).heap[gs]? = some (.cells M 44) := fun o => by rcases hg with ⟨rfl, rfl⟩ | ⟨rfl, rfl⟩; exact h0 o; exact h1' o
  have hgl : ∀ o : Obj, (W.alloc o).heap[gl]? = some (.cells M 44) := fun o => by rcases hg with ⟨rfl, rfl⟩ | ⟨rfl, rfl⟩; exact h1' o; exact h0 o
  have hl : (newD n).safe.length = n := List.length_replicate
  refine ⟨gs, n, gl, n, .slice none 0 0, ?_⟩
  constructor
  · rw [hl]; exact hB _
  · rw [hl]; exact row_new (by omega) hM (hgs _)
  · rw [hl]; exact row_new (by omega) hM (hgl _)
  · exact ⟨fun c hc => (by cases hc), World.ownsRow_nil _ _ _ _⟩
  · rfl
  · rw [hl]; exact h1
  · rw [hl]; exact h2
  · simp
  · simp; omega
  · simp; omega
  · intro g hg; cases hg
  · omega
  · omega
  · omega
  · intro g hg; cases hg
  · intro k hk
    have : (W.alloc (.cells #[.slice (some ⟨gs, 0, none⟩) n n, .slice (some ⟨gl, 0, none⟩) n n, .slice none 0 0, .int .i64 0, .bool false, .int .i64 0] 68)).drew.heap.size = w.heap.size + 1 + 1 + 1 := by simp [hs]
    rw [this]
    simp at hk
    omega
set_option maxHeartbeats 2000000 in
theorem new_ok (n : Nat) (h1 : 1 ≤ n) (h2 : n ≤ 2048) (w : World) : Calls Try.prog 4 #[.int .i64 (n : Int)] w (NewPost n w) := by
  obtain ⟨M, hM, hmk⟩ := mk_run n (by omega)
  have HM := Lib.hid hM
  clear hM
  go_enter Try.func4, Try.ntmps4
  go_wp2_with fail
  refine (may_yes n (by omega) (by omega) _).mono ?_
  rintro e w' ⟨rfl, rfl⟩
  go_wp2_with fail
  go_region
  all_goals
    go_wp2_with fail
    go_ret2
    refine ⟨_, _, rfl, new_disk n h1 h2 w M HM.out _ _ (by omega), ?_, ?_⟩
    · exact ((((Grow.alloc w _).trans (Grow.alloc _ _)).trans (Grow.alloc _ _)).trans (Grow.drew _))
    · intro k hk
      simp at hk
      omega
#print axioms new_ok
end Go.Proofs.Ytieknecbheeekaa
