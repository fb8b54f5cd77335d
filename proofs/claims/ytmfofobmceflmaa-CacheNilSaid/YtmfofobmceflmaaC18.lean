/- A cache that nobody made: what each method answers; the law CacheNil: the walk. -/
import Derived.Test.YtmfofobmceflmaaC17
set_option linter.unusedVariables false
set_option linter.unusedSimpArgs false
namespace Go.Proofs.Ytmfofobmceflmaa
open Go.RowKit Go.Maps

/-- a pointer at which there is no cache -/
def NoC (w : World) (v : Value) : Prop := ∀ w', Grow w w' → Calls Try.prog 32 #[v] w' fun e w'' => e = .returned (.bool false) ∧ w' = w''
theorem NoC.here {w : World} {v : Value} (h : NoC w v) : Calls Try.prog 32 #[v] w fun e w'' => e = .returned (.bool false) ∧ w = w'' := h w (Grow.refl w)
theorem NoC.later {w w' : World} {v : Value} (h : NoC w v) (hg : Grow w w') : NoC w' v := fun w2 h2 => h w2 (hg.trans h2)
theorem noC_nil (w : World) : NoC w (.pointer none) := fun w' _ => cmade_nil w'
theorem noC_empty {w : World} {C : Nat} (hC : C < w.heap.size) (h : w.cell? ⟨C, 0, none⟩ = some (.pointer none)) : NoC w (.pointer (some ⟨C, 0, none⟩)) := fun w' hg => cmade_empty ((hg.cell (p := ⟨C, 0, none⟩) hC).trans h)
theorem cask_no {w : World} {v : Value} (h : NoC w v) (b : Value) : Calls Try.prog 37 #[v, b] w fun e w' => e = .returned (.int .i64 1) ∧ w = w' := by
  have HV := Lib.hid h
  clear h
  go_enter Try.func37, Try.ntmps37
  go_wp2_with fail
  refine (HV.out.here).mono ?_
  rintro e w' ⟨rfl, rfl⟩
  go_wp2_with fail
  go_ret
  exact ⟨rfl, rfl⟩
theorem cback_none {w : World} {v : Value} (h : NoC w v) (b : Value) : Calls Try.prog 25 #[v, b] w fun e w' => e = .returned (.int .i64 1) ∧ w = w' := by
  have HV := Lib.hid h
  clear h
  go_enter Try.func25, Try.ntmps25
  go_wp2_with fail
  refine (cask_no HV.out b).mono ?_
  rintro e w' ⟨rfl, rfl⟩
  go_wp2_with fail
  go_ret
  exact ⟨rfl, rfl⟩
theorem cdrop_none {w : World} {v : Value} (h : NoC w v) (b : Value) : Calls Try.prog 20 #[v, b] w fun e w' => e = .returned (.int .i64 1) ∧ w = w' := by
  have HV := Lib.hid h
  clear h
  go_enter Try.func20, Try.ntmps20
  go_wp2_with fail
  refine (cask_no HV.out b).mono ?_
  rintro e w' ⟨rfl, rfl⟩
  go_wp2_with fail
  go_ret
  exact ⟨rfl, rfl⟩
theorem cpin_none {w : World} {v : Value} (h : NoC w v) (b on : Value) : Calls Try.prog 19 #[v, b, on] w fun e w' => (∃ v, e = .returned v) ∧ w = w' := by
  have HV := Lib.hid h
  clear h
  go_enter Try.func19, Try.ntmps19
  go_wp2_with fail
  refine (cask_no HV.out b).mono ?_
  rintro e w' ⟨rfl, rfl⟩
  go_wp2_with fail
  refine bodyPost_ret (results_none rfl _ _ _) rfl ?_
  exact ⟨⟨_, rfl⟩, rfl⟩
theorem cwrite_none {w : World} {v : Value} (h : NoC w v) (b : Value) (X : Array Value) : Calls Try.prog 24 #[v, b, .agg X] w fun e w' => e = .returned (.int .i64 1) ∧ Grow w w' := by
  have HV := Lib.hid (h.later (Grow.alloc w (.cells X 32)))
  clear h
  go_enter Try.func24, Try.ntmps24
  go_wp2_with fail
  refine (cask_no HV.out b).mono ?_
  rintro e w' ⟨rfl, rfl⟩
  go_wp2_with fail
  go_ret
  exact ⟨rfl, Grow.alloc _ _⟩
theorem cwb_none {w : World} {v : Value} (h : NoC w v) (b : Value) : Calls Try.prog 15 #[v, b] w fun e w' => e = .returned (.tuple #[.int .i64 0, .bool false, .int .i64 1]) ∧ w = w' := by
  have HV := Lib.hid h
  clear h
  go_enter Try.func15, Try.ntmps15
  go_wp2_with fail
  refine (HV.out.here).mono ?_
  rintro e w' ⟨rfl, rfl⟩
  go_wp2_with fail
  go_ret3
  exact ⟨rfl, rfl⟩
theorem cdirty_none {w : World} {v : Value} (h : NoC w v) : Calls Try.prog 10 #[v] w fun e w' => e = .returned (.slice none 0 0) ∧ w = w' := by
  have HV := Lib.hid h
  clear h
  go_enter Try.func10, Try.ntmps10
  go_wp2_with fail
  refine (HV.out.here).mono ?_
  rintro e w' ⟨rfl, rfl⟩
  go_wp2_with fail
  go_ret
  exact ⟨rfl, rfl⟩
theorem cclean_none {w : World} {v : Value} (h : NoC w v) : Calls Try.prog 11 #[v] w fun e w' => e = .returned (.slice none 0 0) ∧ w = w' := by
  have HV := Lib.hid h
  clear h
  go_enter Try.func11, Try.ntmps11
  go_wp2_with fail
  refine (HV.out.here).mono ?_
  rintro e w' ⟨rfl, rfl⟩
  go_wp2_with fail
  go_ret
  exact ⟨rfl, rfl⟩
theorem cev_none {w : World} {v : Value} (h : NoC w v) (b : Int) : Calls Try.prog 22 #[v, .int .i64 b] w fun e w' => e = .returned (.tuple #[.int .i64 0, .bool false]) ∧ w = w' := by
  have HV := Lib.hid h
  clear h
  go_enter Try.func22, Try.ntmps22
  go_wp2_with fail
  refine (cclean_none HV.out).mono ?_
  rintro e w' ⟨rfl, rfl⟩
  go_wp2_with fail
  refine (pick_none (rowNil _ _ _) b).mono ?_
  rintro e w' ⟨rfl, rfl⟩
  go_wp2_with fail
  go_ret2
  exact ⟨rfl, rfl⟩
theorem cdisk_none {w : World} {v : Value} (h : NoC w v) : Calls Try.prog 23 #[v] w fun e w' => e = .returned (.pointer none) ∧ w = w' := by
  have HV := Lib.hid h
  clear h
  go_enter Try.func23, Try.ntmps23
  go_wp2_with fail
  refine (HV.out.here).mono ?_
  rintro e w' ⟨rfl, rfl⟩
  go_wp2_with fail
  go_ret
  exact ⟨rfl, rfl⟩
theorem csync_none {w : World} {v : Value} (h : NoC w v) : Calls Try.prog 26 #[v] w fun e w' => e = .returned (.int .i64 1) ∧ w = w' := by
  have HV := Lib.hid h
  clear h
  go_enter Try.func26, Try.ntmps26
  go_wp2_with fail
  refine (HV.out.here).mono ?_
  rintro e w' ⟨rfl, rfl⟩
  go_wp2_with fail
  go_ret
  exact ⟨rfl, rfl⟩
set_option maxHeartbeats 2000000 in
theorem cread_none {w : World} {v : Value} (h : NoC w v) (b : Value) : Calls Try.prog 18 #[v, b] w fun e w' => e = .returned (.tuple #[.agg (bc zeroB).toArray, .int .i64 1]) ∧ Grow w w' := by
  have HB := Lib.hid (show Try.prog.built 32 [] = some (bc zeroB).toArray by kernel_rfl)
  have HC := Lib.hid (h.later (Grow.alloc w (.cells (bc zeroB).toArray 32)))
  have hz := zero32
  have hzs := zero_size
  have HO := Lib.hid (show (bc zeroB).toArray.all (·.oneCell') = true from all_oneCell_toArray (bc_one _))
  generalize (bc zeroB).toArray = Z at *
  have HSz := Lib.hid (show (Try.prog.info? 32).map (·.size) = some Z.size by rw [hzs]; exact size32)
  clear h hzs
  go_enter Try.func18, Try.ntmps18
  go_wp2_with fail
  refine (cask_no HC.out b).mono ?_
  rintro e w' ⟨rfl, rfl⟩
  go_wp2_with (first | ((refine wpList_build rfl 32 _ rfl (by rw [show (((#[] : Array (Nat × Operand)).map fun (i, x) => (i, Act.eval _ x)).toList) = [] from rfl, HB.out]; rfl) ?_); rw [show (((#[] : Array (Nat × Operand)).map fun (i, x) => (i, Act.eval _ x)).toList) = [] from rfl, HB.out, Option.getD_some]) | (refine wpList_store_row rfl 32 _ _ rfl w.heap.size Z rfl rfl 32 Z (heap_alloc_last _ _) HSz.out rfl HO.out ?_))
  refine bodyPost_ret (results_row_tmp rfl _ _ w.heap.size 32 Z (0, 0) _ _ rfl (setRow_heap _ _ _ _ _ _ (heap_alloc_last _ _)) Try.underlying32 rfl HSz.out rfl) rfl ⟨rfl, below_setRow ((Below.refl _ _).alloc (Nat.le_refl _) _) (Nat.le_refl _) _⟩
theorem blocks_none {w : World} {v : Value} (h : Calls Try.prog 42 #[v] w fun e w' => e = .returned (.bool false) ∧ w = w') : Calls Try.prog 38 #[v] w fun e w' => e = .returned (.int .i64 0) ∧ w = w' := by
  have HV := Lib.hid h
  clear h
  go_enter Try.func38, Try.ntmps38
  go_wp2_with fail
  refine HV.out.mono ?_
  rintro e w' ⟨rfl, rfl⟩
  go_wp2_with fail
  go_ret
  exact ⟨rfl, rfl⟩
theorem cnew_none {w : World} {v : Value} (h : Calls Try.prog 42 #[v] w fun e w' => e = .returned (.bool false) ∧ w = w') : Calls Try.prog 21 #[v] w fun e w' => e = .returned (.tuple #[.pointer none, .int .i64 1]) ∧ w = w' := by
  have HV := Lib.hid h
  clear h
  go_enter Try.func21, Try.ntmps21
  go_wp2_with fail
  refine (blocks_none HV.out).mono ?_
  rintro e w' ⟨rfl, rfl⟩
  go_wp2_with fail
  go_ret2
  exact ⟨rfl, rfl⟩
#print axioms cread_none
end Go.Proofs.Ytmfofobmceflmaa
