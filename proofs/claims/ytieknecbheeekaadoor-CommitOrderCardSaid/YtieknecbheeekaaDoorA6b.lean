/- commit.Plan: its region 17, over letters. -/
import Derived.Test.YtieknecbheeekaaDoorA6
set_option linter.unusedVariables false
set_option linter.unusedSimpArgs false
namespace Go.Proofs.YtieknecbheeekaaDoor
open Go.RowKit Go.Maps
noncomputable def plan_reg17Code : Code := regById 17 (codesOf (Tryd.f5.body.getD .skip))
set_option maxRecDepth 100000 in
set_option maxHeartbeats 4000000 in
theorem plan_reg17 (g : Nat) (X : Blk) (W1 : World) (HXL : Hid (List.length X = 256)) (HXG : Hid (W1.heap[g]? = some (.cells (bc X).toArray 34)))
    (s0 s1 s2 s3 s4 s5 s6 s7 s8 s9 s10 s11 s13 s14 s15 s17 s18 s19 s20 s21 s22 s23 s24 s25 s26 s27 s28 s29 s30 s31 s32 s33 s34 s35 s36 s37 s38 s39 s40 s41 s42 s43 s44 s45 s46 s47 s48 s49 s50 s51 s52 s53 s54 s55 s56 s57 s58 s59 s60 s61 s62 s63 s64 s65 s66 s67 s68 s69 s70 s71 s72 s73 s74 s75 s76 s77 s78 : Value) (Q : Exit → Act → World → Prop) (HK : Hid (∀ u69 u70 u71 u72 a' c' w', BRow w' (.slice a' 1 c') [X] → Grow W1 w' → Q .normal ⟨(s0 :: s1 :: s2 :: s3 :: s4 :: s5 :: s6 :: s7 :: s8 :: s9 :: s10 :: s11 :: .slice a' 1 c' :: s13 :: s14 :: s15 :: .pointer (some ⟨g, 0, none⟩) :: s17 :: s18 :: s19 :: s20 :: s21 :: s22 :: s23 :: s24 :: s25 :: s26 :: s27 :: s28 :: s29 :: s30 :: s31 :: s32 :: s33 :: s34 :: s35 :: s36 :: s37 :: s38 :: s39 :: s40 :: s41 :: s42 :: s43 :: s44 :: s45 :: s46 :: s47 :: s48 :: s49 :: s50 :: s51 :: s52 :: s53 :: s54 :: s55 :: s56 :: s57 :: s58 :: s59 :: s60 :: s61 :: s62 :: s63 :: s64 :: s65 :: s66 :: s67 :: s68 :: u69 :: u70 :: u71 :: u72 :: s73 :: s74 :: s75 :: s76 :: s77 :: s78 :: []).toArray, []⟩ w')) : plan_reg17Code.wp Tryd.prog Q ⟨(s0 :: s1 :: s2 :: s3 :: s4 :: s5 :: s6 :: s7 :: s8 :: s9 :: s10 :: s11 :: .slice none 0 0 :: s13 :: s14 :: s15 :: .pointer (some ⟨g, 0, none⟩) :: s17 :: s18 :: s19 :: s20 :: s21 :: s22 :: s23 :: s24 :: s25 :: s26 :: s27 :: s28 :: s29 :: s30 :: s31 :: s32 :: s33 :: s34 :: s35 :: s36 :: s37 :: s38 :: s39 :: s40 :: s41 :: s42 :: s43 :: s44 :: s45 :: s46 :: s47 :: s48 :: s49 :: s50 :: s51 :: s52 :: s53 :: s54 :: s55 :: s56 :: s57 :: s58 :: s59 :: s60 :: s61 :: s62 :: s63 :: s64 :: s65 :: s66 :: s67 :: s68 :: s69 :: s70 :: s71 :: s72 :: s73 :: s74 :: s75 :: s76 :: s77 :: s78 :: []).toArray, []⟩ W1 := by
  obtain ⟨ib, hib, hx0, hx1, hx2⟩ := info_parts info32b
  have HZ := Lib.hid zero_size
  obtain ⟨Z, hZ⟩ : ∃ Z, Z = (bc zeroB).toArray := ⟨_, rfl⟩
  rw [← hZ] at HZ hx0
  have HIB := Lib.hid hib
  have HX0 := Lib.hid hx0
  have HBSX := Lib.hid (buildSlice_blk X HXL.out)
  obtain ⟨RX, hRX⟩ : ∃ RX, RX = (bc X).toArray := ⟨_, rfl⟩
  have HBSY := Lib.hid (show ∀ w : World, (Instr.buildSlice 57 1 #[(0, .agg RX)]).run Tryd.prog w = .ok (.slice (some ⟨w.heap.size, 0, none⟩) 1 1) (w.alloc (.cells (bc X).toArray 34)) from fun w => by rw [hRX]; exact HBSX.out w)
  have HRs := Lib.hid (show RX.size = 256 by rw [hRX, List.size_toArray, bc_length, HXL.out])
  have HXG := Lib.hid (show W1.heap[g]? = some (.cells RX 34) by rw [hRX]; exact HXG.out)
  clear hib hx0 hZ hRX
  conv => arg 2; whnf
  go_wp2_with (first | (refine wpList_load_row rfl 34 _ rfl g rfl 34 RX (0, 0) _ HXG.out Tryd.underlying34 rfl (by rw [HRs.out]; exact size32) ?_) | (refine wpList_buildSlice rfl 57 1 _ rfl (by simp only [List.map_toArray, List.map_cons, List.map_nil]; exact HBSY.out _) ?_) | (at_builtin; go_loud (refine wpList_append_row rfl _ _ 57 rfl 34 ib (.agg Z) 256 256 Tryd.underlying57 HIB.out HX0.out hx1 hx2 HZ.out (by decide) (.slice none 0 0) [] rfl (rowNil _ _ _) _ 1 (bc X) rfl (by rw [bc_length]; exact HXL.out) (new_cells _ _ _) (bc_one X) (by decide) (by decide) ?_); intro v6 w6 happ htch; obtain ⟨a6, k6, hv6⟩ := Row.len happ.1; subst hv6))
  exact HK.out _ _ _ _ _ _ _ happ.1 ((Grow.alloc _ _).trans (htch.below (Nat.le_refl _) (by simp [ownL, Value.ownBlock])))
#print axioms plan_reg17
end Go.Proofs.YtieknecbheeekaaDoor
