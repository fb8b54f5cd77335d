/- Begin. -/
import Derived.Test.YtnogajnoghjmhaaT6a
set_option linter.unusedVariables false
set_option linter.unusedSimpArgs false
namespace Go.Proofs.Ytnogajnoghjmhaa
open Go.RowKit Go.Maps

theorem begin_not {w : World} {v : Value} (hM : Calls Try.prog 31 #[v] w fun e w' => e = .returned (.bool false) ∧ w = w') (x y : Int) : Calls Try.prog 9 #[v, .int .i64 x, .int .i64 y] w fun e w' => e = .returned (.int .i64 1) ∧ w = w' := by
  go_enter Try.func9, Try.ntmps9
  go_wp2_with fail
  refine hM.mono ?_
  rintro e w' ⟨rfl, rfl⟩
  go_wp2_with fail
  go_ret
  exact ⟨rfl, rfl⟩
theorem begin_open {w : World} {B c : Nat} (h0 : w.cell? ⟨B, 0, none⟩ = some (.map (some c))) (h5 : w.cell? ⟨B, 5, none⟩ = some (.bool true)) (x y : Int) : Calls Try.prog 9 #[.pointer (some ⟨B, 0, none⟩), .int .i64 x, .int .i64 y] w fun e w' => e = .returned (.int .i64 141) ∧ w = w' := by
  have HM := Lib.hid (made_some h0)
  go_enter Try.func9, Try.ntmps9
  go_wp2_with fail
  refine HM.out.mono ?_
  rintro e w' ⟨rfl, rfl⟩
  go_wp2_with fail
  go_ret
  exact ⟨rfl, rfl⟩
theorem begin_arg {w : World} {B c : Nat} (h0 : w.cell? ⟨B, 0, none⟩ = some (.map (some c))) (h5 : w.cell? ⟨B, 5, none⟩ = some (.bool false)) {x y : Int} (h : x < 0 ∨ y < 0) : Calls Try.prog 9 #[.pointer (some ⟨B, 0, none⟩), .int .i64 x, .int .i64 y] w fun e w' => e = .returned (.int .i64 2) ∧ w = w' := by
  have HM := Lib.hid (made_some h0)
  by_cases hx : x < 0
  · have d0 : decide (x < 0) = true := decide_eq_true hx
    go_enter Try.func9, Try.ntmps9
    go_wp2_with fail
    refine HM.out.mono ?_
    rintro e w' ⟨rfl, rfl⟩
    go_wp2_with fail
    go_ret
    exact ⟨rfl, rfl⟩
  · have d0 : decide (x < 0) = false := decide_eq_false hx
    have d1 : decide (y < 0) = true := decide_eq_true (by omega)
    go_enter Try.func9, Try.ntmps9
    go_wp2_with fail
    refine HM.out.mono ?_
    rintro e w' ⟨rfl, rfl⟩
    go_wp2_with fail
    go_ret
    exact ⟨rfl, rfl⟩
set_option maxRecDepth 100000 in
set_option maxHeartbeats 2000000 in
theorem begin_ok {w : World} {B : Nat} {a : PA} {N seq : Nat} {s : PS} (h : TC w B a N seq s) (hN : N ≤ 100000) (hs : seq < 4294967296) {cr rv : Int} (hc : 0 ≤ cr) (hr : 0 ≤ rv) : Calls Try.prog 9 #[.pointer (some ⟨B, 0, none⟩), .int .i64 cr, .int .i64 rv] w fun e w' => e = .returned (.int .i64 0) ∧ ∃ tb o, TO w' B a tb o N seq cr rv s s [] ∧ Touch [B] w w' ∧ ∀ i ∈ tb :: o.ids, w.heap.size ≤ i := by
  have hmm := @run_makeMap Try.prog
  have HH := Lib.hid h
  have HM := Lib.hid (made_some (cell_at h.obj 0))
  have HB := Lib.hid (Array.getElem?_eq_some_iff.1 h.obj).1
  have c5 : w.cell? ⟨B, 5, none⟩ = some (.bool false) := cell_at h.obj 5
  have c6 : w.cell? ⟨B, 6, none⟩ = some (.int .i64 0) := cell_at h.obj 6
  have c7 : w.cell? ⟨B, 7, none⟩ = some (.int .i64 0) := cell_at h.obj 7
  have c8 : w.cell? ⟨B, 8, none⟩ = some (.map none) := cell_at h.obj 8
  have f5 : w.frozen? ⟨B, 5, none⟩ = false := frozen_at h.obj 5
  have f6 : w.frozen? ⟨B, 6, none⟩ = false := frozen_at h.obj 6
  have f7 : w.frozen? ⟨B, 7, none⟩ = false := frozen_at h.obj 7
  have f8 : w.frozen? ⟨B, 8, none⟩ = false := frozen_at h.obj 8
  have d0 : decide (cr < 0) = false := decide_eq_false (by omega)
  have d1 : decide (rv < 0) = false := decide_eq_false (by omega)
  obtain ⟨W1, hW1⟩ : ∃ W1 : World, W1 = (((((w.setCell ⟨B, 5, none⟩ (.bool true)).setCell ⟨B, 6, none⟩ (.int .i64 cr)).setCell ⟨B, 7, none⟩ (.int .i64 rv))).alloc (.map #[] 0)).setCell ⟨B, 8, none⟩ (.map (some w.heap.size)) := ⟨_, rfl⟩
  have hobj : W1.heap[B]? = some (.cells (cellsO a seq cr rv w.heap.size ⟨0, 0, 0, 0, 0⟩ |>.take 9 |> (· ++ [.map none, .map none, .map none, .pointer none])).toArray 66) := by
    rw [hW1]
    have k1 := heap_set (heap_set (heap_set h.obj 5 (.bool true)) 6 (.int .i64 cr)) 7 (.int .i64 rv)
    have k2 := heap_set ((Below.heap_alloc _ (.map #[] 0) B (by simpa using HB.out)).trans k1) 8 (.map (some w.heap.size))
    exact k2.trans (by simp [cellsO, cellsC])
  have ht : Touch [B] w W1 := by
    rw [hW1]
    exact Touch.trans (S' := [B]) (Touch.trans (S' := [B]) (Touch.trans (S' := [B]) (Touch.trans (S' := [B]) (Touch.setCell (S := [B]) _ (by simp) _) (Touch.setCell (S := [B]) _ (by simp) _) (fun i hi => .inl hi)) (Touch.setCell (S := [B]) _ (by simp) _) (fun i hi => .inl hi)) (Touch.alloc [B] _ _) (fun i hi => .inl hi)) (Touch.setCell (S := [B]) _ (by simp) _) (fun i hi => .inl hi)
  have hsz : W1.heap.size = w.heap.size + 1 := by rw [hW1]; simp
  have hmap : MapIs W1 unitK w.heap.size 0 [] := by
    rw [hW1]
    have m := mapIs_new unitK ((((w.setCell ⟨B, 5, none⟩ (.bool true)).setCell ⟨B, 6, none⟩ (.int .i64 cr)).setCell ⟨B, 7, none⟩ (.int .i64 rv)))
    have m2 := m.kept (Touch.setCell (S := [B]) _ (a := ⟨B, 8, none⟩) (by simp) (.map (some w.heap.size))) (by simp; have := HB.out; omega)
    simpa using m2
  have hnb : B ∉ a.ids := (List.nodup_cons.1 h.nd).1
  have HOBJ := Lib.hid hobj
  have HT := Lib.hid ht
  have HSZ := Lib.hid hsz
  have HMAP := Lib.hid hmap
  have HP := Lib.hid (h.p.kept ht (fun i hi hm => hnb (by rw [← List.mem_singleton.1 hm]; exact hi)))
  have HW1 := Lib.hid hW1
  have k0 := (Below.heap_alloc ((((w.setCell ⟨B, 5, none⟩ (.bool true)).setCell ⟨B, 6, none⟩ (.int .i64 cr)).setCell ⟨B, 7, none⟩ (.int .i64 rv))) (.map #[] 0) B (by simpa using HB.out)).trans (heap_set (heap_set (heap_set h.obj 5 (.bool true)) 6 (.int .i64 cr)) 7 (.int .i64 rv))
  have e8 := cell_at k0 8
  have g8 := frozen_at k0 8
  rw [show (((((cellsC a seq).toArray.setIfInBounds 5 (.bool true)).setIfInBounds 6 (.int .i64 cr)).setIfInBounds 7 (.int .i64 rv))[8]? = some (.map none)) by simp [cellsC]] at e8
  clear hobj ht hsz hmap hW1 h k0 c8 f8
  go_enter Try.func9, Try.ntmps9
  go_wp2_with fail
  refine HM.out.mono ?_
  rintro e w' ⟨rfl, rfl⟩
  go_wp2_with fail
  rw [← HW1.out]
  refine begin_reg9 B N seq a s W1 ?b0 ?b1 ?b2 ?b3 ?b4 ?b5 ?d9 ?e9 ?d10 ?e10 ?d11 ?e11 ?d12 ?e12 ?bp hN (Lib.hid hs) _ _ _ _ _ _ _ _ _ _ _ _ _ _ _ _ _ _ _ _ _ _ _ _ _ _ _ _ _ _ _ _ _ _ _ _ _ _ _ _ _ _ _ _ _ _ _ _ _ (Lib.hid ?hk)
  case b0 => exact Lib.hid (by have := HB.out; have := HSZ.out; omega)
  case b1 => exact Lib.hid ⟨by have := HB.out; have := HSZ.out; omega, cell_at HOBJ.out 4⟩
  case b2 => exact Lib.hid (cell_at HOBJ.out 0)
  case b3 => exact Lib.hid (cell_at HOBJ.out 1)
  case b4 => exact Lib.hid (cell_at HOBJ.out 2)
  case b5 => exact Lib.hid (cell_at HOBJ.out 3)
  case d9 => exact Lib.hid ⟨_, cell_at HOBJ.out 9⟩
  case e9 => exact Lib.hid (frozen_at HOBJ.out 9)
  case d10 => exact Lib.hid ⟨_, cell_at HOBJ.out 10⟩
  case e10 => exact Lib.hid (frozen_at HOBJ.out 10)
  case d11 => exact Lib.hid ⟨_, cell_at HOBJ.out 11⟩
  case e11 => exact Lib.hid (frozen_at HOBJ.out 11)
  case d12 => exact Lib.hid ⟨_, cell_at HOBJ.out 12⟩
  case e12 => exact Lib.hid (frozen_at HOBJ.out 12)
  case bp => exact HP
  case hk =>
    intro u38 u39 u40 u41 u42 u43 u44 u45 u46 u47 u48 wz o htz hPz hnz hiz
    have hw := (htz.block B (by have := HB.out; have := HSZ.out; omega) (by simp)).trans HOBJ.out
    have h4 := (heap_set (heap_set (heap_set (heap_set hw 9 (.map (some o.c))) 10 (.map (some o.o))) 11 (.map (some o.f))) 12 (.pointer (some ⟨o.B, 0, none⟩)))
    have ht4 : Touch [B] wz ((((wz.setCell ⟨B, 9, none⟩ (.map (some o.c))).setCell ⟨B, 10, none⟩ (.map (some o.o))).setCell ⟨B, 11, none⟩ (.map (some o.f))).setCell ⟨B, 12, none⟩ (.pointer (some ⟨o.B, 0, none⟩))) := (Touch.trans (S' := [B]) (Touch.trans (S' := [B]) (Touch.trans (S' := [B]) (Touch.setCell (S := [B]) _ (a := ⟨B, 9, none⟩) (by simp) (.map (some o.c))) (Touch.setCell (S := [B]) _ (a := ⟨B, 10, none⟩) (by simp) (.map (some o.o))) (fun i hi => .inl hi)) (Touch.setCell (S := [B]) _ (a := ⟨B, 11, none⟩) (by simp) (.map (some o.f))) (fun i hi => .inl hi)) (Touch.setCell (S := [B]) _ (a := ⟨B, 12, none⟩) (by simp) (.pointer (some ⟨o.B, 0, none⟩))) (fun i hi => .inl hi))
    have H4 := Lib.hid h4
    have HT4 := Lib.hid ht4
    have HTZ := Lib.hid htz
    have HPZ := Lib.hid hPz
    have HNZ := Lib.hid hnz
    have HIZ := Lib.hid hiz
    clear hw h4 ht4 htz hPz hnz hiz
    go_wp2_with fail
    go_ret
    have hB := HB.out
    have hS := HSZ.out
    have hA := HH.out.p.lt
    have hno : B ∉ o.ids := fun hm => by have := HIZ.out _ hm; omega
    have hin : ∀ i ∈ a.ids, i ∉ [B] := fun i hi hm => hnb (by rw [← List.mem_singleton.1 hm]; exact hi)
    refine ⟨rfl, w.heap.size, o, ⟨H4.out.trans (by simp [cellsO]), (HP.out.kept HTZ.out (by simp)).kept HT4.out hin, ((HMAP.out.mono (Nat.zero_le _)).kept HTZ.out (by simp)).kept HT4.out (by simp; omega), HPZ.out.kept HT4.out (fun i hi hm => hno (by rw [← List.mem_singleton.1 hm]; exact hi)), ?_⟩, ?_, ?_⟩
    · refine List.nodup_cons.2 ⟨fun hm => ?_, List.nodup_append.2 ⟨(List.nodup_cons.1 HH.out.nd).2, List.nodup_cons.2 ⟨fun hm => by have := HIZ.out _ hm; omega, HNZ.out⟩, fun x hx y hy e => ?_⟩⟩
      · rcases List.mem_append.1 hm with hm | hm
        · exact hnb hm
        · rcases List.mem_cons.1 hm with hm | hm
          · omega
          · exact hno hm
      · have h1 := hA x hx
        rcases List.mem_cons.1 hy with hm | hm
        · omega
        · have := HIZ.out _ hm; omega
    · exact (HT.out.trans HTZ.out (by simp)).trans HT4.out (fun i hi => .inl hi)
    · intro i hi
      rcases List.mem_cons.1 hi with hm | hm
      · omega
      · have := HIZ.out _ hm; omega
#print axioms begin_ok
end Go.Proofs.Ytnogajnoghjmhaa
