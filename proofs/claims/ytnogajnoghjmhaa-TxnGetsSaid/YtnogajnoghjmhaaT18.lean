/- The law's awake. -/
import Derived.Test.YtnogajnoghjmhaaT17
set_option linter.unusedVariables false
set_option linter.unusedSimpArgs false
namespace Go.Proofs.Ytnogajnoghjmhaa
open Go.RowKit Go.Maps

theorem sortI_one (z : Int) : sortI [z] = [z] := sortI_self (by simp)
theorem insS_one (z : Int) : insS [] z = [z] := by unfold insS delS; simp [sortI_one]
theorem aw0 (x y z : Blk) : beginT (.c noPS) 2 1 = (0, (.o noPS noPS 2 1 [])) := by
  simp [beginT, putT, orderT, forgetT, endT, noPS, keysA, insA, delA, delS, insS_one]
theorem aw1 (x y z : Blk) : putT (.o noPS noPS 2 1 []) 5 x = (0, (.o ⟨[(5, x)], [], [], []⟩ noPS 2 1 [(5, ())])) := by
  simp [beginT, putT, orderT, forgetT, endT, noPS, keysA, insA, delA, delS, insS_one]
theorem aw2 (x y z : Blk) : putT (.o ⟨[(5, x)], [], [], []⟩ noPS 2 1 [(5, ())]) 7 y = (0, (.o ⟨[(5, x), (7, y)], [], [], []⟩ noPS 2 1 [(5, ()), (7, ())])) := by
  simp [beginT, putT, orderT, forgetT, endT, noPS, keysA, insA, delA, delS, insS_one]
theorem aw3 (x y z : Blk) : putT (.o ⟨[(5, x), (7, y)], [], [], []⟩ noPS 2 1 [(5, ()), (7, ())]) 8 z = (140, (.o ⟨[(5, x), (7, y)], [], [], []⟩ noPS 2 1 [(5, ()), (7, ())])) := by
  simp [beginT, putT, orderT, forgetT, endT, noPS, keysA, insA, delA, delS, insS_one]
theorem aw4 (x y z : Blk) : orderT (.o ⟨[(5, x), (7, y)], [], [], []⟩ noPS 2 1 [(5, ()), (7, ())]) 9 = (0, (.o ⟨[(5, x), (7, y)], [(9, ())], [], []⟩ noPS 2 1 [(5, ()), (7, ())])) := by
  simp [beginT, putT, orderT, forgetT, endT, noPS, keysA, insA, delA, delS, insS_one]
theorem aw5 (x y z : Blk) : forgetT (.o ⟨[(5, x), (7, y)], [(9, ())], [], []⟩ noPS 2 1 [(5, ()), (7, ())]) 7 true = (0, (.o ⟨[(5, x)], [(9, ())], [(7, ())], [7]⟩ noPS 2 0 [(5, ()), (7, ())])) := by
  simp [beginT, putT, orderT, forgetT, endT, noPS, keysA, insA, delA, delS, insS_one]
theorem aw6 (x y z : Blk) : forgetT (.o ⟨[(5, x)], [(9, ())], [(7, ())], [7]⟩ noPS 2 0 [(5, ()), (7, ())]) 5 true = (140, (.o ⟨[(5, x)], [(9, ())], [(7, ())], [7]⟩ noPS 2 0 [(5, ()), (7, ())])) := by
  simp [beginT, putT, orderT, forgetT, endT, noPS, keysA, insA, delA, delS, insS_one]
theorem aw7 (x y z : Blk) : endT (.o ⟨[(5, x)], [(9, ())], [(7, ())], [7]⟩ noPS 2 0 [(5, ()), (7, ())]) = (0, (.c ⟨[(5, x)], [(9, ())], [(7, ())], [7]⟩)) := by
  simp [beginT, putT, orderT, forgetT, endT, noPS, keysA, insA, delA, delS, insS_one]
theorem irow_one (w : World) (z : Int) : IRow (w.alloc (.cells #[.int .i64 z] 3)) (.slice (some ⟨w.heap.size, 0, none⟩) 1 1) [z] :=
  ⟨fun c hc => by obtain ⟨y, _, rfl⟩ := List.mem_map.1 hc; rfl, by simp [icell], .inr ⟨w.heap.size, 1, _, rfl, Nat.zero_le _, heap_alloc_last _ _, by simp, by unfold maxLen; simp, by simp, by simp [icell]⟩⟩
theorem mk_int1 (z : Int) (w : World) : (Instr.buildSlice 37 1 #[(0, .int .i64 z)]).run Try.prog w = .ok (.slice (some ⟨w.heap.size, 0, none⟩) 1 1) (w.alloc (.cells #[.int .i64 z] 3)) := by kernel_rfl
theorem wpList_bs_int {w : World} {ops : Array Oper} {rest : List Oper} {o : Oper} {a : Act} {Q : Exit → Act → World → Prop} (hgd : o.guard = none) (x : Operand) (ho : o.op = .buildSlice 37 1 #[(0, x)]) (z : Int) (hx : a.eval x = .int .i64 z)
    (hK : ∀ w' g, IRow w' (.slice (some ⟨g, 0, none⟩) 1 1) [z] → Grow w w' → wpList Try.prog ops Q rest (a.put o.dst (.slice (some ⟨g, 0, none⟩) 1 1)) w') : wpList Try.prog ops Q (o :: rest) a w :=
  wpList_buildSlice hgd _ 1 _ ho (by simp only [List.map_toArray, List.map_cons, List.map_nil, hx]; exact mk_int1 z w) (hK _ _ (irow_one w z) (Grow.alloc _ _))
set_option maxRecDepth 100000 in
set_option maxHeartbeats 4000000 in
theorem awake_ok (w : World) : Calls Try.prog 24 #[] w fun e w' => e = .returned (.bool true) ∧ Grow w w' := by
  go_enter Try.func24, Try.ntmps24
  go_wp2_with fail
  refine (live_new 3 (P := []) _ (by simp)).mono ?_
  rintro e w0 ⟨B, rfl, hl⟩
  have HL0 := Lib.hid hl
  clear hl
  go_wp2_with fail
  refine (HL0.out.begin_ (by omega) (by omega) ⟨by omega, by omega⟩).mono ?_
  intro e w1 hp
  unfold LPost at hp
  rw [aw0 (fillB 1) (fillB 2) (fillB 3)] at hp
  obtain ⟨rfl, hl, _⟩ := hp
  have HL1 := Lib.hid hl
  clear hl
  go_wp2_with fail
  refine (fill_any 1 (by omega) _).mono ?_
  rintro e wf1 ⟨rfl, hg⟩
  have HL1f := Lib.hid (HL1.out.later hg)
  clear hg
  go_wp2_with fail
  refine (HL1f.out.put_ (by omega) (by omega) ⟨by omega, by omega⟩ (fillB_length _)).mono ?_
  intro e w2 hp
  unfold LPost at hp
  rw [aw1 (fillB 1) (fillB 2) (fillB 3)] at hp
  obtain ⟨rfl, hl, _⟩ := hp
  have HL2 := Lib.hid hl
  clear hl
  go_wp2_with fail
  refine (fill_any 2 (by omega) _).mono ?_
  rintro e wf2 ⟨rfl, hg⟩
  have HL2f := Lib.hid (HL2.out.later hg)
  clear hg
  go_wp2_with fail
  refine (HL2f.out.put_ (by omega) (by omega) ⟨by omega, by omega⟩ (fillB_length _)).mono ?_
  intro e w3 hp
  unfold LPost at hp
  rw [aw2 (fillB 1) (fillB 2) (fillB 3)] at hp
  obtain ⟨rfl, hl, _⟩ := hp
  have HL3 := Lib.hid hl
  clear hl
  go_wp2_with fail
  refine (fill_any 3 (by omega) _).mono ?_
  rintro e wf3 ⟨rfl, hg⟩
  have HL3f := Lib.hid (HL3.out.later hg)
  clear hg
  go_wp2_with fail
  refine (HL3f.out.put_ (by omega) (by omega) ⟨by omega, by omega⟩ (fillB_length _)).mono ?_
  intro e w4 hp
  unfold LPost at hp
  rw [aw3 (fillB 1) (fillB 2) (fillB 3)] at hp
  obtain ⟨rfl, hl, _⟩ := hp
  have HL4 := Lib.hid hl
  clear hl
  go_wp2_with fail
  refine (HL4.out.order_ (by omega) ⟨by omega, by omega⟩).mono ?_
  intro e w5 hp
  unfold LPost at hp
  rw [aw4 (fillB 1) (fillB 2) (fillB 3)] at hp
  obtain ⟨rfl, hl, _⟩ := hp
  have HL5 := Lib.hid hl
  clear hl
  go_wp2_with fail
  refine (HL5.out.forget_ (by omega) (by omega) ⟨by omega, by omega⟩ true).mono ?_
  intro e w6 hp
  unfold LPost at hp
  rw [aw5 (fillB 1) (fillB 2) (fillB 3)] at hp
  obtain ⟨rfl, hl, _⟩ := hp
  have HL6 := Lib.hid hl
  clear hl
  go_wp2_with fail
  refine (HL6.out.forget_ (by omega) (by omega) ⟨by omega, by omega⟩ true).mono ?_
  intro e w7 hp
  unfold LPost at hp
  rw [aw6 (fillB 1) (fillB 2) (fillB 3)] at hp
  obtain ⟨rfl, hl, _⟩ := hp
  have HL7 := Lib.hid hl
  clear hl
  go_wp2_with fail
  refine (HL7.out.end_).mono ?_
  intro e w8 hp
  unfold LPost at hp
  rw [aw7 (fillB 1) (fillB 2) (fillB 3)] at hp
  obtain ⟨rfl, hl, _⟩ := hp
  have HL8 := Lib.hid hl
  clear hl
  go_wp2_with fail
  refine (HL8.out.changed (by omega)).mono ?_
  rintro e wr0 ⟨v, rfl, hr, hg, _⟩
  have HR := Lib.hid (show IRow wr0 v [5] from by have := hr; simpa [TS.now, keysA, sortI_one] using this)
  have HL := Lib.hid (HL8.out.later hg)
  clear hr hg
  go_wp2_with fail
  refine (Rev.same_ints (HR.out.grow (Grow.alloc _ _)) (irow_one _ _) (by simp)).mono ?_
  rintro e ws0 ⟨rfl, hg⟩
  have HLr0 := Lib.hid (HL.out.later (Grow.trans (Grow.alloc _ _) hg))
  clear hg HR HL
  go_wp2_with fail
  refine (HLr0.out.ordered (by omega)).mono ?_
  rintro e wr1 ⟨v, rfl, hr, hg, _⟩
  have HR := Lib.hid (show IRow wr1 v [9] from by have := hr; simpa [TS.now, keysA, sortI_one] using this)
  have HL := Lib.hid (HLr0.out.later hg)
  clear hr hg
  go_wp2_with fail
  refine (Rev.same_ints (HR.out.grow (Grow.alloc _ _)) (irow_one _ _) (by simp)).mono ?_
  rintro e ws1 ⟨rfl, hg⟩
  have HLr1 := Lib.hid (HL.out.later (Grow.trans (Grow.alloc _ _) hg))
  clear hg HR HL
  go_wp2_with fail
  refine (HLr1.out.revoked (by omega)).mono ?_
  rintro e wr2 ⟨v, rfl, hr, hg, _⟩
  have HR := Lib.hid (show IRow wr2 v [7] from by have := hr; simpa [TS.now, keysA, sortI_one] using this)
  have HL := Lib.hid (HLr1.out.later hg)
  clear hr hg
  go_wp2_with fail
  refine (Rev.same_ints (HR.out.grow (Grow.alloc _ _)) (irow_one _ _) (by simp)).mono ?_
  rintro e ws2 ⟨rfl, hg⟩
  have HLr2 := Lib.hid (HL.out.later (Grow.trans (Grow.alloc _ _) hg))
  clear hg HR HL
  go_wp2_with fail
  go_ret
  exact ⟨rfl, HLr2.out.grow⟩
#print axioms awake_ok
end Go.Proofs.Ytnogajnoghjmhaa
