/- commit.Plan: its region 14, over letters. -/
import Derived.Test.YtieknecbheeekaaDoorA5
import Derived.Test.YtieknecbheeekaaDoorP6
import Derived.Deep.RegionWith
set_option linter.unusedVariables false
set_option linter.unusedSimpArgs false
namespace Go.Proofs.YtieknecbheeekaaDoor
open Go.RowKit Go.Maps
def NewB (W1 : World) (Z : Array Value) : Value → World → Prop := fun v wx => ∃ g, v = .pointer (some ⟨g, 0, none⟩) ∧ W1.heap.size ≤ g ∧ g < wx.heap.size ∧ wx.heap[g]? = some (.cells Z 34)
noncomputable def plan_reg14Code : Code := regById 14 (codesOf (Tryd.f5.body.getD .skip))
set_option maxRecDepth 100000 in
set_option maxHeartbeats 4000000 in
theorem plan_reg14 (B1 gp op np cp seq f : Nat) (R Z : Array Value) (W1 : World) (HB0 : Hid (0 < np)) (HC0 : Hid (B1 < W1.heap.size ∧ W1.cell? ⟨B1, 0, none⟩ = some (.int .u32 (seq : Int)))) (HC1 : Hid (gp < W1.heap.size ∧ W1.cell? ⟨gp, op, none⟩ = some (.int .i64 (f : Int)))) (HS1 : Hid (1 ≤ seq ∧ seq ≤ 2147483648)) (HF : Hid (f ≤ 255)) (HR : Hid (R = (bc (beginB 4 seq f)).toArray)) (HRs : Hid (R.size = 256)) (HR1 : Hid (R.all (·.oneCell') = true)) (HZ : Hid (Z.size = 256)) (HZE : Hid (∀ w : World, (zeroValue 34).run Tryd.prog w = .ok (.agg Z) w))
    (s0 s1 s2 s4 s5 s7 s8 s9 s10 s11 s12 s13 s14 s15 s16 s17 s18 s19 s20 s21 s22 s23 s24 s25 s26 s27 s28 s29 s30 s31 s32 s33 s34 s35 s36 s37 s38 s39 s40 s41 s42 s43 s44 s45 s46 s47 s48 s49 s50 s51 s52 s53 s54 s55 s56 s57 s58 s59 s60 s61 s62 s63 s64 s65 s66 s67 s68 s69 s70 s71 s72 s73 s74 s75 s76 s77 s78 : Value) (K K1 : Act → World → Prop) (R0 : Ending → World → Prop) (HK : Hid (∀ u56 u57 u58 u59 u60 u61 u62 u63 u64 u65 wz, ∀ g, W1.heap.size ≤ g → wz.heap[g]? = some (.cells R 34) → Touch [] W1 wz → K ⟨(s0 :: s1 :: s2 :: .slice (some ⟨gp, op, none⟩) np cp :: s4 :: s5 :: .pointer (some ⟨B1, 0, none⟩) :: s7 :: s8 :: s9 :: s10 :: s11 :: s12 :: s13 :: s14 :: s15 :: .pointer (some ⟨g, 0, none⟩) :: .int .i64 0 :: s18 :: s19 :: s20 :: s21 :: s22 :: s23 :: s24 :: s25 :: s26 :: s27 :: s28 :: s29 :: s30 :: s31 :: s32 :: s33 :: s34 :: s35 :: s36 :: s37 :: s38 :: s39 :: s40 :: s41 :: s42 :: s43 :: s44 :: s45 :: s46 :: s47 :: s48 :: s49 :: s50 :: s51 :: s52 :: s53 :: s54 :: s55 :: u56 :: u57 :: u58 :: u59 :: u60 :: u61 :: u62 :: u63 :: u64 :: u65 :: s66 :: s67 :: s68 :: s69 :: s70 :: s71 :: s72 :: s73 :: s74 :: s75 :: s76 :: s77 :: s78 :: []).toArray, []⟩ (wz))) : plan_reg14Code.wp Tryd.prog (Exit.then K (Exit.then K1 (bodyPost Tryd.prog Tryd.f5 R0))) ⟨(s0 :: s1 :: s2 :: .slice (some ⟨gp, op, none⟩) np cp :: s4 :: s5 :: .pointer (some ⟨B1, 0, none⟩) :: s7 :: s8 :: s9 :: s10 :: s11 :: s12 :: s13 :: s14 :: s15 :: s16 :: s17 :: s18 :: s19 :: s20 :: s21 :: s22 :: s23 :: s24 :: s25 :: s26 :: s27 :: s28 :: s29 :: s30 :: s31 :: s32 :: s33 :: s34 :: s35 :: s36 :: s37 :: s38 :: s39 :: s40 :: s41 :: s42 :: s43 :: s44 :: s45 :: s46 :: s47 :: s48 :: s49 :: s50 :: s51 :: s52 :: s53 :: s54 :: s55 :: s56 :: s57 :: s58 :: s59 :: s60 :: s61 :: s62 :: s63 :: s64 :: s65 :: s66 :: s67 :: s68 :: s69 :: s70 :: s71 :: s72 :: s73 :: s74 :: s75 :: s76 :: s77 :: s78 :: []).toArray, []⟩ W1 := by
  conv => arg 2; whnf
  have b0 := HB0.out
  have b1 : (0 : Int) < (np : Int) := by omega
  have hz := HZE.out
  have l0 := HC0.out.1
  have l1 := HC1.out.1
  have c0 := HC0.out.2
  have c1 := HC1.out.2
  have stf : ∀ (g : Nat) (w : World), w.heap[g]? = some (.cells Z 34) → (storeCells ⟨g, 0, none⟩ R.toList).run Tryd.prog w = .ok () (w.setRow g R) := fun g w hg => by
    have := run_storeCells_from (P := Tryd.prog) g 34 R.toList 0 Z w hg (by rw [Array.length_toList, HRs.out, HZ.out]) (fun v hv => (Array.all_eq_true_iff_forall_mem.1 HR1.out) v (by simpa using hv))
    simpa using this
  have sta : ∀ w : World, (storeCells ⟨w.heap.size, 0, none⟩ R.toList).run Tryd.prog (w.alloc (.cells Z 34)) = .ok () ((w.alloc (.cells Z 34)).setRow w.heap.size R) := fun w => stf _ _ (heap_alloc_last _ _)
  have n0 : ¬ B1 = W1.heap.size := by omega
  have n1 : ¬ gp = W1.heap.size := by omega
  have STF := Lib.hid stf
  clear stf
  go_region_with (go_at_call 13; refine (head_ok seq f HS1.out.1 HS1.out.2 HF.out _).mono ?_; rintro e w5 ⟨rfl, hg5⟩; rw [← HR.out]; try (have hst5 := STF.out _ _ ((hg5.block _ (by simp)).trans (heap_alloc_last _ _))))
  all_goals clear sta STF hz
  all_goals simp only [Act.put, List.getElem_toArray, List.getElem_cons_succ, List.getElem_cons_zero, List.setIfInBounds_toArray, List.set_cons_succ, List.set_cons_zero]
  all_goals first
    | exact HK.out _ _ _ _ _ _ _ _ _ _ _ _ (show W1.heap.size ≤ _ from hg5.size) (setRow_heap _ _ _ _ _ _ (heap_alloc_last _ _)) (Touch.of_below (below_setRow (Below.trans (show Below W1.heap.size W1 _ from Below.trans (show Below W1.heap.size W1 W1.drew from (Touch.drew [] W1).below (Nat.le_refl _) (by simp)) hg5) (show Below W1.heap.size _ _ from (Touch.alloc [] _ _).below hg5.size (by simp))) hg5.size _))
    | exact HK.out _ _ _ _ _ _ _ _ _ _ _ _ (Nat.le_refl _) (setRow_heap _ _ _ _ _ _ ((hg5.block _ (by show _ < (W1.alloc (.cells Z 34)).heap.size; simp)).trans (heap_alloc_last W1 _))) (Touch.of_below (below_setRow (Grow.trans (Grow.alloc W1 _) (Grow.trans (show Grow _ (W1.alloc (.cells Z 34)).drew from (Touch.drew [] _).below (Nat.le_refl _) (by simp)) hg5)) (Nat.le_refl _) _))
#print axioms plan_reg14
end Go.Proofs.YtieknecbheeekaaDoor
