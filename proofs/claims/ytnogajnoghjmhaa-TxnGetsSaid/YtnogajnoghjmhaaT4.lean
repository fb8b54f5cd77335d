/- A transaction: End, Undo; what a closed one refuses. -/
import Derived.Test.YtnogajnoghjmhaaT3
set_option linter.unusedVariables false
set_option linter.unusedSimpArgs false
namespace Go.Proofs.Ytnogajnoghjmhaa
open Go.RowKit Go.Maps

theorem TC.handle {w : World} {B : Nat} {a : PA} {N seq : Nat} {s : PS} (h : TC w B a N seq s) : Calls Try.prog 35 #[.pointer (some ⟨B, 0, none⟩)] w fun e w' => e = .returned (.int .i64 141) ∧ w = w' :=
  handle_is (b := false) (cell_at h.obj 0) (cell_at h.obj 5)
theorem TO.handle {w : World} {B : Nat} {a : PA} {tb : Nat} {o : PA} {N seq : Nat} {cr rv : Int} {s q : PS} {did : List (Int × Unit)} (h : TO w B a tb o N seq cr rv s q did) : Calls Try.prog 35 #[.pointer (some ⟨B, 0, none⟩)] w fun e w' => e = .returned (.int .i64 0) ∧ w = w' :=
  handle_is (b := true) (cell_at h.obj 0) (cell_at h.obj 5)
theorem end_err {w : World} {v : Value} {z : Int} (hz : z ≠ 0) (hH : Calls Try.prog 35 #[v] w fun e w' => e = .returned (.int .i64 z) ∧ w = w') : Calls Try.prog 12 #[v] w fun e w' => e = .returned (.int .i64 z) ∧ w = w' := by
  have d0 : (z == 0) = false := by simpa using hz
  go_enter Try.func12, Try.ntmps12
  go_wp2_with fail
  refine hH.mono ?_
  rintro e w' ⟨rfl, rfl⟩
  go_wp2_with fail
  go_ret
  exact ⟨rfl, rfl⟩
theorem undo_err {w : World} {v : Value} {z : Int} (hz : z ≠ 0) (hH : Calls Try.prog 35 #[v] w fun e w' => e = .returned (.int .i64 z) ∧ w = w') : Calls Try.prog 26 #[v] w fun e w' => e = .returned (.int .i64 z) ∧ w = w' := by
  have d0 : (z == 0) = false := by simpa using hz
  go_enter Try.func26, Try.ntmps26
  go_wp2_with fail
  refine hH.mono ?_
  rintro e w' ⟨rfl, rfl⟩
  go_wp2_with fail
  go_ret
  exact ⟨rfl, rfl⟩
set_option maxHeartbeats 1000000 in
theorem end_ok {w : World} {B : Nat} {a : PA} {tb : Nat} {o : PA} {N seq : Nat} {cr rv : Int} {s q : PS} {did : List (Int × Unit)} (h : TO w B a tb o N seq cr rv s q did) : Calls Try.prog 12 #[.pointer (some ⟨B, 0, none⟩)] w fun e w' => e = .returned (.int .i64 0) ∧ TC w' B a N seq s ∧ Touch [B] w w' := by
  have H := Lib.hid h
  have HH := Lib.hid h.handle
  have HC := Lib.hid (close_ok (X := cellsC a seq) rfl h.obj)
  clear h
  go_enter Try.func12, Try.ntmps12
  go_wp2_with fail
  refine HH.out.mono ?_
  rintro e w' ⟨rfl, rfl⟩
  go_wp2_with fail
  refine HC.out.mono ?_
  rintro e w1 ⟨rfl, h1, h2⟩
  have H1 := Lib.hid h1
  have H2 := Lib.hid h2
  clear h1 h2
  go_wp2_with fail
  go_ret
  have hn := List.nodup_cons.1 H.out.nd
  have hn2 := List.nodup_append.1 hn.2
  refine ⟨rfl, ⟨H1.out, H.out.p.kept H2.out (fun i hi hm => hn.1 (by rw [← List.mem_singleton.1 hm]; exact List.mem_append_left _ hi)), ?_⟩, H2.out⟩
  exact List.nodup_cons.2 ⟨fun hm => hn.1 (List.mem_append_left _ hm), hn2.1⟩
set_option maxHeartbeats 1000000 in
theorem undo_ok {w : World} {B : Nat} {a : PA} {tb : Nat} {o : PA} {N seq : Nat} {cr rv : Int} {s q : PS} {did : List (Int × Unit)} (h : TO w B a tb o N seq cr rv s q did) : Calls Try.prog 26 #[.pointer (some ⟨B, 0, none⟩)] w fun e w' => e = .returned (.int .i64 0) ∧ TC w' B o N seq q ∧ Touch [B] w w' := by
  have H := Lib.hid h
  have HH := Lib.hid h.handle
  have c0 : w.cell? ⟨B, 0, none⟩ = some (.map (some a.c)) := cell_at h.obj 0
  have f0 : w.frozen? ⟨B, 0, none⟩ = false := frozen_at h.obj 0
  have c1 : w.cell? ⟨B, 1, none⟩ = some (.map (some a.o)) := cell_at h.obj 1
  have f1 : w.frozen? ⟨B, 1, none⟩ = false := frozen_at h.obj 1
  have c2 : w.cell? ⟨B, 2, none⟩ = some (.map (some a.f)) := cell_at h.obj 2
  have f2 : w.frozen? ⟨B, 2, none⟩ = false := frozen_at h.obj 2
  have c3 : w.cell? ⟨B, 3, none⟩ = some (.pointer (some ⟨a.B, 0, none⟩)) := cell_at h.obj 3
  have f3 : w.frozen? ⟨B, 3, none⟩ = false := frozen_at h.obj 3
  have c9 : w.cell? ⟨B, 9, none⟩ = some (.map (some o.c)) := cell_at h.obj 9
  have f9 : w.frozen? ⟨B, 9, none⟩ = false := frozen_at h.obj 9
  have c10 : w.cell? ⟨B, 10, none⟩ = some (.map (some o.o)) := cell_at h.obj 10
  have f10 : w.frozen? ⟨B, 10, none⟩ = false := frozen_at h.obj 10
  have c11 : w.cell? ⟨B, 11, none⟩ = some (.map (some o.f)) := cell_at h.obj 11
  have f11 : w.frozen? ⟨B, 11, none⟩ = false := frozen_at h.obj 11
  have c12 : w.cell? ⟨B, 12, none⟩ = some (.pointer (some ⟨o.B, 0, none⟩)) := cell_at h.obj 12
  have f12 : w.frozen? ⟨B, 12, none⟩ = false := frozen_at h.obj 12
  have h4 := (heap_set (heap_set (heap_set (heap_set h.obj 0 (.map (some o.c))) 1 (.map (some o.o))) 2 (.map (some o.f))) 3 (.pointer (some ⟨o.B, 0, none⟩)))
  have ht4 := (Touch.trans (S' := [B]) (Touch.trans (S' := [B]) (Touch.trans (S' := [B]) (Touch.setCell (S := [B]) w (a := ⟨B, 0, none⟩) (by simp) (.map (some o.c))) (Touch.setCell (S := [B]) (w.setCell ⟨B, 0, none⟩ (.map (some o.c))) (a := ⟨B, 1, none⟩) (by simp) (.map (some o.o))) (fun i hi => .inl hi)) (Touch.setCell (S := [B]) ((w.setCell ⟨B, 0, none⟩ (.map (some o.c))).setCell ⟨B, 1, none⟩ (.map (some o.o))) (a := ⟨B, 2, none⟩) (by simp) (.map (some o.f))) (fun i hi => .inl hi)) (Touch.setCell (S := [B]) (((w.setCell ⟨B, 0, none⟩ (.map (some o.c))).setCell ⟨B, 1, none⟩ (.map (some o.o))).setCell ⟨B, 2, none⟩ (.map (some o.f))) (a := ⟨B, 3, none⟩) (by simp) (.pointer (some ⟨o.B, 0, none⟩))) (fun i hi => .inl hi))
  have HT4 := Lib.hid ht4
  have HC := Lib.hid (close_ok (X := cellsC o seq) rfl (a := o) (seq := seq) (cr := cr) (rv := rv) (tb := tb) (o := o) (h4.trans (by simp [cellsO])))
  clear h h4 ht4
  go_enter Try.func26, Try.ntmps26
  go_wp2_with fail
  refine HH.out.mono ?_
  rintro e w' ⟨rfl, rfl⟩
  go_wp2_with fail
  refine HC.out.mono ?_
  rintro e w1 ⟨rfl, h1, h2⟩
  have H1 := Lib.hid h1
  have H2 := Lib.hid (HT4.out.trans h2 (fun i hi => .inl hi))
  clear h1 h2
  go_wp2_with fail
  go_ret
  have hn := List.nodup_cons.1 H.out.nd
  have hn2 := (List.nodup_cons.1 (List.nodup_append.1 hn.2).2.1)
  have hb : B ∉ o.ids := fun hm => hn.1 (List.mem_append_right _ (List.mem_cons_of_mem _ hm))
  exact ⟨rfl, ⟨H1.out, H.out.q.kept H2.out (fun i hi hm => hb (by rw [← List.mem_singleton.1 hm]; exact hi)), List.nodup_cons.2 ⟨hb, hn2.2⟩⟩, H2.out⟩
#print axioms undo_ok
end Go.Proofs.Ytnogajnoghjmhaa
