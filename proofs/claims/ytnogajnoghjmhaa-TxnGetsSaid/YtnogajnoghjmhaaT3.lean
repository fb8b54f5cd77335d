/- A transaction: void, New, close, End, Undo. -/
import Derived.Test.YtnogajnoghjmhaaT2
set_option linter.unusedVariables false
set_option linter.unusedSimpArgs false
namespace Go.Proofs.Ytnogajnoghjmhaa
open Go.RowKit Go.Maps

theorem mapIs_new {α : Type} (K : EK α) (w : World) : MapIs (w.alloc (.map #[] 0)) K w.heap.size 0 [] := ⟨.map [], World.ownsMap_made w _ _ _, AMap.empty K, Nat.le_refl _⟩
def noPS : PS := ⟨[], [], [], []⟩
def cellsP (a : PA) : List Value := [.map (some a.c), .map (some a.o), .map (some a.f), .pointer (some ⟨a.B, 0, none⟩)]
theorem tab_rv {w : World} {B bm seq : Nat} (h : Rev.Tab w B bm 0 []) : RvIs w B bm 0 seq [] := ⟨⟨[], h, List.nodup_nil, List.Perm.refl _⟩, List.Pairwise.nil, (fun z hz => by cases hz), Nat.le_refl _⟩
theorem infoP : (Try.prog.info? 64).map (·.size) = some 4 := by kernel_rfl
theorem alloc4 (w : World) (o a b c : Obj) : ((((w.alloc o).alloc a).alloc b).alloc c).heap[w.heap.size]? = some o := by
  rw [Below.heap_alloc _ _ _ (by simp; omega), Below.heap_alloc _ _ _ (by simp; omega), Below.heap_alloc _ _ _ (by simp)]
  exact heap_alloc_last _ _
theorem void_ok (seq : Nat) (w : World) : Calls Try.prog 30 #[] w fun e w' => ∃ a, e = .returned (.agg (cellsP a).toArray) ∧ PIs w' a 0 seq noPS ∧ Grow w w' ∧ a.ids.Nodup ∧ ∀ i ∈ a.ids, w.heap.size ≤ i := by
  have hmm := @run_makeMap Try.prog
  go_enter Try.func30, Try.ntmps30
  go_wp2_with fail
  refine (Rev.new_ok _).mono ?_
  rintro e w1 ⟨B, bm, rfl, HT, HG, hB, hm⟩
  have HT := Lib.hid HT
  have hc := (HG.block w.heap.size (by simp; omega)).trans (alloc4 w _ _ _ _)
  have HG := Lib.hid HG
  have HC := Lib.hid hc
  have c0 := cell_at hc 0
  have c1 := cell_at hc 1
  have c2 := cell_at hc 2
  have c3 := cell_at hc 3
  have f0 := frozen_at hc 0
  have f1 := frozen_at hc 1
  have f2 := frozen_at hc 2
  have f3 := frozen_at hc 3
  clear hc
  go_wp2_with fail
  have h4 := heap_set (heap_set (heap_set (heap_set HC.out 0 (.map (some (w.heap.size + 1)))) 1 (.map (some (w.heap.size + 2)))) 2 (.map (some (w.heap.size + 3)))) 3 (.pointer (some ⟨B, 0, none⟩))
  refine bodyPost_ret (results_cell_row rfl _ _ w.heap.size 64 _ (0, 0) _ rfl h4 Try.underlying64 rfl (by exact infoP)) rfl ?_
  have ht : Touch [w.heap.size] w1 ((((w1.setCell ⟨w.heap.size, 0, none⟩ (.map (some (w.heap.size + 1)))).setCell ⟨w.heap.size, 1, none⟩ (.map (some (w.heap.size + 2)))).setCell ⟨w.heap.size, 2, none⟩ (.map (some (w.heap.size + 3)))).setCell ⟨w.heap.size, 3, none⟩ (.pointer (some ⟨B, 0, none⟩))) :=
    (((Touch.setCell _ (by simp) _).trans (Touch.setCell (S := [w.heap.size]) _ (by simp) _) (by simp)).trans (Touch.setCell (S := [w.heap.size]) _ (by simp) _) (by simp)).trans (Touch.setCell (S := [w.heap.size]) _ (by simp) _) (by simp)
  have hB' : w.heap.size + 4 ≤ B := by simpa using hB
  have hm' : w.heap.size + 4 ≤ bm := by simpa using hm
  refine ⟨⟨w.heap.size + 1, w.heap.size + 2, w.heap.size + 3, B, bm⟩, rfl, ?_, ?_, ?_, ?_⟩
  · have m1 := mapIs_new blkK (w.alloc (.cells #[.map none, .map none, .map none, .pointer none] 64))
    have m2 := mapIs_new unitK ((w.alloc (.cells #[.map none, .map none, .map none, .pointer none] 64)).alloc (.map #[] 0))
    have m3 := mapIs_new unitK (((w.alloc (.cells #[.map none, .map none, .map none, .pointer none] 64)).alloc (.map #[] 0)).alloc (.map #[] 0))
    have g := (Touch.of_below (S := [w.heap.size]) HG.out).trans ht (by simp)
    rw [show (w.alloc (.cells #[.map none, .map none, .map none, .pointer none] 64)).heap.size = w.heap.size + 1 by simp] at m1
    rw [show ((w.alloc (.cells #[.map none, .map none, .map none, .pointer none] 64)).alloc (.map #[] 0)).heap.size = w.heap.size + 2 by simp] at m2
    rw [show (((w.alloc (.cells #[.map none, .map none, .map none, .pointer none] 64)).alloc (.map #[] 0)).alloc (.map #[] 0)).heap.size = w.heap.size + 3 by simp] at m3
    exact ⟨((m1.kept (Touch.alloc [] _ _) (by simp)).kept (Touch.alloc [] _ _) (by simp)).kept g (by simp), (m2.kept (Touch.alloc [] _ _) (by simp)).kept g (by simp), m3.kept g (by simp), (tab_rv HT.out).kept ht (by simp; omega) (by simp; omega)⟩
  · exact ((((Touch.alloc [] w _).trans (Touch.alloc [] _ _) (by simp)).trans (Touch.alloc [] _ _) (by simp)).trans (Touch.alloc [] _ _) (by simp)).below (Nat.le_refl _) (by simp) |>.trans (Below.mono HG.out (by simp; omega)) |>.trans (ht.below (by have := HG.out.size; simp at this; omega) (by simp))
  · have hne := HT.out.ne
    simp only [PA.ids, List.nodup_cons, List.mem_cons, List.not_mem_nil, or_false, not_or]
    refine ⟨?_, ?_, ?_, ?_, ?_⟩
    all_goals first | omega | simp
  · intro i hi
    simp only [PA.ids, List.mem_cons, List.not_mem_nil, or_false] at hi
    omega
theorem new_ok (seq : Nat) (w : World) : Calls Try.prog 8 #[.int .u32 (seq : Int)] w fun e w' => ∃ B a, e = .returned (.pointer (some ⟨B, 0, none⟩)) ∧ TC w' B a 0 seq noPS ∧ Grow w w' ∧ ∀ i ∈ B :: a.ids, w.heap.size ≤ i := by
  go_enter Try.func8, Try.ntmps8
  go_wp2_with fail
  refine (void_ok seq _).mono ?_
  rintro e w1 ⟨a, rfl, HP, HG, HN, HI⟩
  have HP := Lib.hid HP
  have HG := Lib.hid HG
  have HI := Lib.hid HI
  have HL := Lib.hid HP.out.lt
  unfold cellsP
  go_wp2_with fail
  go_ret
  refine ⟨w1.heap.size, a, rfl, ⟨heap_alloc_last _ _, HP.out.kept (Touch.alloc [] _ _) (by simp), ?_⟩, HG.out.trans (Grow.alloc _ _), ?_⟩
  · rw [List.nodup_cons]
    exact ⟨fun hm => by have := HL.out _ hm; omega, HN⟩
  · intro i hi
    rcases List.mem_cons.1 hi with rfl | hi
    · exact HG.out.size
    · exact HI.out i hi
set_option maxHeartbeats 1000000 in
/-- what is left of an open handle's object when it is closed -/
theorem close_ok {w : World} {B : Nat} {a : PA} {seq : Nat} {X : List Value} (hX : X = cellsC a seq) {cr rv : Int} {tb : Nat} {o : PA} (h : w.heap[B]? = some (.cells (cellsO a seq cr rv tb o).toArray 66)) : Calls Try.prog 36 #[.pointer (some ⟨B, 0, none⟩)] w fun e w' => e = .returned (.tuple #[]) ∧ w'.heap[B]? = some (.cells X.toArray 66) ∧ Touch [B] w w' := by
  have HC := Lib.hid h
  have HX := Lib.hid hX
  have c5 : w.cell? ⟨B, 5, none⟩ = some (.bool true) := cell_at h 5
  have c6 : w.cell? ⟨B, 6, none⟩ = some (.int .i64 cr) := cell_at h 6
  have c7 : w.cell? ⟨B, 7, none⟩ = some (.int .i64 rv) := cell_at h 7
  have c8 : w.cell? ⟨B, 8, none⟩ = some (.map (some tb)) := cell_at h 8
  have c9 : w.cell? ⟨B, 9, none⟩ = some (.map (some o.c)) := cell_at h 9
  have c10 : w.cell? ⟨B, 10, none⟩ = some (.map (some o.o)) := cell_at h 10
  have c11 : w.cell? ⟨B, 11, none⟩ = some (.map (some o.f)) := cell_at h 11
  have c12 : w.cell? ⟨B, 12, none⟩ = some (.pointer (some ⟨o.B, 0, none⟩)) := cell_at h 12
  have f5 : w.frozen? ⟨B, 5, none⟩ = false := frozen_at h 5
  have f6 : w.frozen? ⟨B, 6, none⟩ = false := frozen_at h 6
  have f7 : w.frozen? ⟨B, 7, none⟩ = false := frozen_at h 7
  have f8 : w.frozen? ⟨B, 8, none⟩ = false := frozen_at h 8
  have f9 : w.frozen? ⟨B, 9, none⟩ = false := frozen_at h 9
  have f10 : w.frozen? ⟨B, 10, none⟩ = false := frozen_at h 10
  have f11 : w.frozen? ⟨B, 11, none⟩ = false := frozen_at h 11
  have f12 : w.frozen? ⟨B, 12, none⟩ = false := frozen_at h 12
  clear h hX
  go_enter Try.func36, Try.ntmps36
  go_wp2
  refine bodyPost_end (results_none rfl _ _ _) rfl ?_
  refine ⟨rfl, ?_, ?_⟩
  · have h12 := (heap_set (heap_set (heap_set (heap_set (heap_set (heap_set (heap_set (heap_set HC.out 5 (.bool false)) 6 (.int .i64 0)) 7 (.int .i64 0)) 8 (.map none)) 9 (.map none)) 10 (.map none)) 11 (.map none)) 12 (.pointer none))
    rw [HX.out]
    refine h12.trans ?_
    simp [cellsO, cellsC]
  · exact (Touch.trans (S' := [B]) (Touch.trans (S' := [B]) (Touch.trans (S' := [B]) (Touch.trans (S' := [B]) (Touch.trans (S' := [B]) (Touch.trans (S' := [B]) (Touch.trans (S' := [B]) (Touch.setCell (S := [B]) w (a := ⟨B, 5, none⟩) (by simp) (.bool false)) (Touch.setCell (S := [B]) (w.setCell ⟨B, 5, none⟩ (.bool false)) (a := ⟨B, 6, none⟩) (by simp) (.int .i64 0)) (fun i hi => .inl hi)) (Touch.setCell (S := [B]) ((w.setCell ⟨B, 5, none⟩ (.bool false)).setCell ⟨B, 6, none⟩ (.int .i64 0)) (a := ⟨B, 7, none⟩) (by simp) (.int .i64 0)) (fun i hi => .inl hi)) (Touch.setCell (S := [B]) (((w.setCell ⟨B, 5, none⟩ (.bool false)).setCell ⟨B, 6, none⟩ (.int .i64 0)).setCell ⟨B, 7, none⟩ (.int .i64 0)) (a := ⟨B, 8, none⟩) (by simp) (.map none)) (fun i hi => .inl hi)) (Touch.setCell (S := [B]) ((((w.setCell ⟨B, 5, none⟩ (.bool false)).setCell ⟨B, 6, none⟩ (.int .i64 0)).setCell ⟨B, 7, none⟩ (.int .i64 0)).setCell ⟨B, 8, none⟩ (.map none)) (a := ⟨B, 9, none⟩) (by simp) (.map none)) (fun i hi => .inl hi)) (Touch.setCell (S := [B]) (((((w.setCell ⟨B, 5, none⟩ (.bool false)).setCell ⟨B, 6, none⟩ (.int .i64 0)).setCell ⟨B, 7, none⟩ (.int .i64 0)).setCell ⟨B, 8, none⟩ (.map none)).setCell ⟨B, 9, none⟩ (.map none)) (a := ⟨B, 10, none⟩) (by simp) (.map none)) (fun i hi => .inl hi)) (Touch.setCell (S := [B]) ((((((w.setCell ⟨B, 5, none⟩ (.bool false)).setCell ⟨B, 6, none⟩ (.int .i64 0)).setCell ⟨B, 7, none⟩ (.int .i64 0)).setCell ⟨B, 8, none⟩ (.map none)).setCell ⟨B, 9, none⟩ (.map none)).setCell ⟨B, 10, none⟩ (.map none)) (a := ⟨B, 11, none⟩) (by simp) (.map none)) (fun i hi => .inl hi)) (Touch.setCell (S := [B]) (((((((w.setCell ⟨B, 5, none⟩ (.bool false)).setCell ⟨B, 6, none⟩ (.int .i64 0)).setCell ⟨B, 7, none⟩ (.int .i64 0)).setCell ⟨B, 8, none⟩ (.map none)).setCell ⟨B, 9, none⟩ (.map none)).setCell ⟨B, 10, none⟩ (.map none)).setCell ⟨B, 11, none⟩ (.map none)) (a := ⟨B, 12, none⟩) (by simp) (.pointer none)) (fun i hi => .inl hi))
#print axioms void_ok
end Go.Proofs.Ytnogajnoghjmhaa
