/- What a transaction tells: its keys, rising; Get, Seq, Open, Revoked. -/
import Derived.Test.YtnogajnoghjmhaaT9
set_option linter.unusedVariables false
set_option linter.unusedSimpArgs false
namespace Go.Proofs.Ytnogajnoghjmhaa
open Go.RowKit Go.Maps Go.Shelf

theorem perm_keys {α : Type} {w : World} {K : EK α} {b N : Nat} {l : List (Int × α)} {D : DataW Value} (hown : w.ownsMap Try.prog 3 K.elem b N D) (hA : AMap K D l) : (keysA l).Perm (intKeys D) :=
  CollectedI.perm (left := fun _ => false) ⟨hA.nd, fun x => by rw [show (Lit.int .i64 x) = ik x from rfl, hA.has]; simp⟩ hown keyInt Try.underlying3 (fun _ => rfl)
theorem row_of_keys {w w' : World} {B : Nat} {v : Value} {ss zs : List Int} (hp : ss.Perm zs) (hr : w'.ownsRow B 3 1 v ss.length ((ss.mergeSort (fun x y => decide (x ≤ y))).map encZ)) (hb : w.heap.size ≤ B) (hg : Grow w w') : RowOfPost (sortI zs) w (.returned v) w' := by
  have he : sortI ss = sortI zs := sorted_unique _ _ ((sortI_perm ss).trans (hp.trans (sortI_perm zs).symm)) (sortI_sorted _) (sortI_sorted _)
  have hl : ((sortI zs).map icell).length = ss.length := by rw [List.length_map, sortI_length, hp.length_eq]
  refine ⟨v, rfl, ⟨fun c hc => ?_, ?_⟩, hg, ?_⟩
  · obtain ⟨z, _, rfl⟩ := List.mem_map.1 hc; rfl
  · rw [icells, hl, ← he]
    exact ownsRow_base_a hr (Nat.zero_le _)
  · intro g e
    rcases hr.2 with ⟨hv, _⟩ | ⟨g', cap, cur, hv, hb2, _⟩
    · subst hv; cases e
    · subst hv; cases e; exact Nat.le_trans hb hb2
/-- slices.Sort's two contracts at the fence that asks nothing. -/
theorem sortsA (m : Nat) : AnyZI.SortsIn Try.prog Try.sortedA_ren Fence.wide m :=
  ⟨fun blk off cap ss W hH hblk hsz => callsIn_wide.2 (AnyM.slices_Sort_int Try.sortA blk off cap ss W hH hblk hsz),
   fun p cap W => callsIn_wide.2 (AnyM.slices_Sort_int_none Try.sortA p cap W)⟩
set_option maxHeartbeats 1000000 in
theorem risingB {α : Type} {w : World} {K : EK α} {b N : Nat} {l : List (Int × α)} (h : MapIs w K b N l) (hl : N ≤ 1000000) : Calls Try.prog 37 #[.map (some b)] w (RowOfPost (sortI (keysA l)) w) := by
  obtain ⟨D, hown, hA, hle⟩ := h
  have hsz := hA.size
  have hp := perm_keys hown hA
  refine (callsIn_wide (n := 6)).1 ?_
  have hbl := hown.lt
  have hseq : SeqGives Fence.wide 2 Try.prog 54 #[.pointer (some ⟨w.heap.size, 0, none⟩)] encZ (fun ss => ss.Perm (intKeys D)) (Maps.size D) (w.alloc (.cells #[.map (some b)] 60)) :=
    AnyZI.keys_gives (ρ := Try.keysA_ren) { Try.keysA with } Fence.wide _ trivial rfl (by omega) w.heap.size b N D _ (by simp) (by simp) (by
      obtain ⟨es, clock, hb, Ft, hs, hD⟩ := hown
      exact ⟨es, clock, (Below.heap_alloc _ _ b hbl).trans hb, Ft, hs, hD⟩)
  have cK : ∀ mb W, CallsIn Fence.wide 5 Try.prog 48 #[.map mb] W fun e w' => e = .returned (.func (.func 54) #[] #[.pointer (some ⟨W.heap.size, 0, none⟩)]) ∧ w' = W.alloc (.cells #[.map mb] 60) := fun mb W => AnyZI.keys_in Try.keysA Fence.wide 5 trivial rfl mb W
  have cS := AnyZI.sorted_in Try.sortedA Fence.wide 5 trivial trivial trivial trivial rfl (by omega) (sortsA _) (enters_of Try.func51 (by kernel_rfl) rfl) 54 #[.pointer (some ⟨w.heap.size, 0, none⟩)] trivial (enters_of Try.func54 (by kernel_rfl) rfl) _ _ (by unfold maxLen; omega) (by omega) _ hseq
  change CallsIn _ _ Try.prog 47 _ _ _ at cS
  have hfK : Fence.wide.fn 48 := trivial
  have hfS : Fence.wide.fn 47 := trivial
  refine callsIn_of_wp Try.func37 rfl trivial ?_ rfl
  simp only [Try.ntmps37, List.size_toArray, List.length_cons, List.length_nil, Nat.reduceAdd, Nat.reduceSub, Array.replicate_succ, Array.replicate_zero, List.push_toArray, List.append_toArray, List.nil_append, List.cons_append]
  gi_wp2_with (first
    | (gi_at_call 48; refine (cK _ _).mono ?_; rintro e w' ⟨rfl, rfl⟩)
    | (gi_at_call 47; refine cS.mono ?_; rintro e w' ⟨v, ss, rfl, hS, hrow, hnil, hb⟩))
  go_ret
  exact row_of_keys (hS.trans hp.symm) hrow (by simp) (((Below.refl _ w).alloc (Nat.le_refl _) _).trans (hb.mono (by simp)))
set_option maxHeartbeats 1000000 in
theorem risingU {α : Type} {w : World} {K : EK α} {b N : Nat} {l : List (Int × α)} (h : MapIs w K b N l) (hl : N ≤ 1000000) : Calls Try.prog 39 #[.map (some b)] w (RowOfPost (sortI (keysA l)) w) := by
  obtain ⟨D, hown, hA, hle⟩ := h
  have hsz := hA.size
  have hp := perm_keys hown hA
  refine (callsIn_wide (n := 6)).1 ?_
  have hbl := hown.lt
  have hseq : SeqGives Fence.wide 2 Try.prog 55 #[.pointer (some ⟨w.heap.size, 0, none⟩)] encZ (fun ss => ss.Perm (intKeys D)) (Maps.size D) (w.alloc (.cells #[.map (some b)] 61)) :=
    AnyZI.keys_gives (ρ := Try.keysB_ren) { Try.keysB with } Fence.wide _ trivial rfl (by omega) w.heap.size b N D _ (by simp) (by simp) (by
      obtain ⟨es, clock, hb, Ft, hs, hD⟩ := hown
      exact ⟨es, clock, (Below.heap_alloc _ _ b hbl).trans hb, Ft, hs, hD⟩)
  have cK : ∀ mb W, CallsIn Fence.wide 5 Try.prog 49 #[.map mb] W fun e w' => e = .returned (.func (.func 55) #[] #[.pointer (some ⟨W.heap.size, 0, none⟩)]) ∧ w' = W.alloc (.cells #[.map mb] 61) := fun mb W => AnyZI.keys_in Try.keysB Fence.wide 5 trivial rfl mb W
  have cS := AnyZI.sorted_in Try.sortedA Fence.wide 5 trivial trivial trivial trivial rfl (by omega) (sortsA _) (enters_of Try.func51 (by kernel_rfl) rfl) 55 #[.pointer (some ⟨w.heap.size, 0, none⟩)] trivial (enters_of Try.func55 (by kernel_rfl) rfl) _ _ (by unfold maxLen; omega) (by omega) _ hseq
  change CallsIn _ _ Try.prog 47 _ _ _ at cS
  have hfK : Fence.wide.fn 49 := trivial
  have hfS : Fence.wide.fn 47 := trivial
  refine callsIn_of_wp Try.func39 rfl trivial ?_ rfl
  simp only [Try.ntmps39, List.size_toArray, List.length_cons, List.length_nil, Nat.reduceAdd, Nat.reduceSub, Array.replicate_succ, Array.replicate_zero, List.push_toArray, List.append_toArray, List.nil_append, List.cons_append]
  gi_wp2_with (first
    | (gi_at_call 49; refine (cK _ _).mono ?_; rintro e w' ⟨rfl, rfl⟩)
    | (gi_at_call 47; refine cS.mono ?_; rintro e w' ⟨v, ss, rfl, hS, hrow, hnil, hb⟩))
  go_ret
  exact row_of_keys (hS.trans hp.symm) hrow (by simp) (((Below.refl _ w).alloc (Nat.le_refl _) _).trans (hb.mono (by simp)))
#print axioms risingU
end Go.Proofs.Ytnogajnoghjmhaa
