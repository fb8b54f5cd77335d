/- New; slices.Compact of rising integers; slices.BinarySearch. -/
import Derived.Test.YtokehhegomiciaaH11
import Derived.Shelf.Slices.CompactI
import Derived.Shelf.Slices.SearchI
set_option linter.unusedVariables false
set_option linter.unusedSimpArgs false
namespace Go.Proofs.Ytokehhegomiciaa
open Go.RowKit Go.Maps Go.Sort

theorem keeps_iff (zs : List Int) (m : Nat) : Lib.keeps zs.toArray m = true ↔ m = 0 ∨ zs.toArray[m]! ≠ zs.toArray[m - 1]! := by
  unfold Lib.keeps
  simp
theorem getB (zs : List Int) {m : Nat} {z : Int} (h : zs[m]? = some z) : zs.toArray[m]! = z := by
  simp [h]
theorem compact_upto (zs : List Int) (hs : zs.Pairwise (· ≤ ·)) : ∀ m, m ≤ zs.length → (Lib.compactUpTo zs.toArray m).Pairwise (· < ·) ∧ ∀ i, i ∈ Lib.compactUpTo zs.toArray m ↔ ∃ j, j < m ∧ zs[j]? = some i := by
  intro m
  induction m with
  | zero => intro _; exact ⟨by unfold Lib.compactUpTo; simp, fun i => by unfold Lib.compactUpTo; simp⟩
  | succ m ih =>
    intro hm
    obtain ⟨h1, h2⟩ := ih (by omega)
    obtain ⟨z, hz⟩ : ∃ z, zs[m]? = some z := ⟨zs[m]'(by omega), by simp⟩
    have le : ∀ (j : Nat) (y : Int), j < m → zs[j]? = some y → y ≤ z := fun j y hj hy => by
      rw [List.pairwise_iff_getElem] at hs
      have a := List.getElem?_eq_some_iff.1 hy
      have b := List.getElem?_eq_some_iff.1 hz
      have := hs j m a.1 b.1 hj
      rw [a.2, b.2] at this
      exact this
    rw [Lib.compactUpTo_succ]
    by_cases hk : Lib.keeps zs.toArray m = true
    · rw [if_pos hk, getB zs hz]
      refine ⟨?_, fun i => ?_⟩
      · rw [List.pairwise_append]
        refine ⟨h1, by simp, fun a ha b hb => ?_⟩
        rw [List.mem_singleton.1 hb]
        obtain ⟨j, hj, hja⟩ := (h2 a).1 ha
        have hle := le j a hj hja
        rcases (keeps_iff zs m).1 hk with h0 | h0
        · omega
        · obtain ⟨y, hy⟩ : ∃ y, zs[m - 1]? = some y := ⟨zs[m - 1]'(by omega), by simp⟩
          rw [getB zs hz, getB zs hy] at h0
          have hyz := le (m - 1) y (by omega) hy
          have hay : a ≤ y := by
            rw [List.pairwise_iff_getElem] at hs
            have p := List.getElem?_eq_some_iff.1 hja
            have q := List.getElem?_eq_some_iff.1 hy
            rcases Nat.lt_or_ge j (m - 1) with h | h
            · have := hs j (m - 1) p.1 q.1 h
              rw [p.2, q.2] at this
              exact this
            · obtain rfl : j = m - 1 := by omega
              rw [hja] at hy; cases hy; omega
          omega
      · rw [List.mem_append, h2, List.mem_singleton]
        constructor
        · rintro (⟨j, hj, e⟩ | rfl)
          · exact ⟨j, by omega, e⟩
          · exact ⟨m, by omega, hz⟩
        · rintro ⟨j, hj, e⟩
          rcases Nat.lt_or_ge j m with h | h
          · exact .inl ⟨j, h, e⟩
          · obtain rfl : j = m := by omega
            rw [hz] at e; cases e; exact .inr rfl
    · have hk2 : Lib.keeps zs.toArray m = false := by simpa using hk
      rw [hk2]
      simp only [Bool.false_eq_true, if_false, List.append_nil]
      refine ⟨h1, fun i => ?_⟩
      rw [h2]
      have hn : ¬ (m = 0 ∨ zs.toArray[m]! ≠ zs.toArray[m - 1]!) := fun h => hk ((keeps_iff zs m).2 h)
      have hm0 : m ≠ 0 := fun e => hn (.inl e)
      obtain ⟨y, hy⟩ : ∃ y, zs[m - 1]? = some y := ⟨zs[m - 1]'(by omega), by simp⟩
      have he : z = y := by
        apply Classical.byContradiction
        intro c
        exact hn (.inr (by rw [getB zs hz, getB zs hy]; exact c))
      constructor
      · rintro ⟨j, hj, e⟩; exact ⟨j, by omega, e⟩
      · rintro ⟨j, hj, e⟩
        rcases Nat.lt_or_ge j m with h | h
        · exact ⟨j, h, e⟩
        · obtain rfl : j = m := by omega
          rw [hz] at e; cases e
          exact ⟨j - 1, by omega, by rw [hy, he]⟩
theorem compact_rises (zs : List Int) (hs : zs.Pairwise (· ≤ ·)) : (Lib.compact zs).Pairwise (· < ·) ∧ ∀ i, i ∈ Lib.compact zs ↔ i ∈ zs := by
  obtain ⟨h1, h2⟩ := compact_upto zs hs zs.length (Nat.le_refl _)
  refine ⟨h1, fun i => (h2 i).trans ?_⟩
  rw [List.mem_iff_getElem?]
  exact ⟨fun ⟨j, _, e⟩ => ⟨j, e⟩, fun ⟨j, e⟩ => ⟨j, (List.getElem?_eq_some_iff.1 e).1, e⟩⟩
theorem compact_le (zs : List Int) : (Lib.compact zs).length ≤ zs.length := by
  unfold Lib.compact Lib.compactUpTo
  rw [List.length_map]
  exact Nat.le_trans (List.length_filter_le _ _) (by simp)
theorem grow_none (w : World) : Sort.grow w #[] = w := by
  cases w
  simp [Sort.grow]
/-- slices.Compact of integers that do not fall -/
theorem compact_ints {w : World} {v : Value} {zs : List Int} (h : IRow w v zs) (hl : zs.length ≤ 1000000) :
    Calls Try.prog 36 #[v] w fun e w' => ∃ a cap, e = .returned (.slice a (Lib.compact zs).length cap) ∧ IRow w' (.slice a (Lib.compact zs).length cap) (Lib.compact zs) ∧ Touch (ownL v) w w' ∧ (∀ k, (Value.slice a (Lib.compact zs).length cap).ownBlock = some k → v.ownBlock = some k) := by
  have h00 := h
  obtain ⟨h0, h1, h2⟩ := h
  rw [List.length_map, icells] at h2
  by_cases hz : zs = []
  · subst hz
    obtain ⟨a, cap, rfl⟩ := IRow.len h00
    refine (Any.slices_Compact_int_empty Try.lays20 a cap w).mono ?_
    rintro e w' ⟨rfl, rfl⟩
    exact ⟨a, cap, rfl, h00, Touch.refl _ _, fun k hk => hk⟩
  · rcases h2 with ⟨hv, hn⟩ | ⟨g, cap, cur, hv, hb, hh, hc1, hc2, hc3, hc4⟩
    · exact absurd (List.eq_nil_of_length_eq_zero hn) hz
    · subst hv
      have hc4' : cur.toList.take zs.length = zs.map (Value.int .i64) := by simpa using hc4
      refine (Any.slices_Compact_int Try.lays20 g 0 cap zs w (holds_of_blockI hh hc4') (by omega) hc1).mono ?_
      rintro e w' ⟨rfl, q, rfl⟩
      have hcl := compact_le zs
      have hll : (Lib.compact zs ++ List.replicate (zs.length - (Lib.compact zs).length) 0).length = zs.length := by rw [List.length_append, List.length_replicate]; omega
      have ho := ownsRow_sortedI (w := w) (base := 0) (g := g) (cap := cap) (n := q) (e := 3) (os := #[]) (cur := cur) (ss := zs) (ts := Lib.compact zs ++ List.replicate (zs.length - (Lib.compact zs).length) 0) hll (Nat.zero_le _) hh hc1 hc2 hc3
      have hgb := grownBy_sortedI (w := w) (g := g) (n := q) (os := #[]) (Lib.compact zs ++ List.replicate (zs.length - (Lib.compact zs).length) 0).toArray
      rw [grow_none] at ho hgb
      refine ⟨some ⟨g, 0, none⟩, cap, rfl, ⟨fun c hc => ?_, ?_⟩, Touch.grown hgb (fun k e => by rw [ownL_mem]; exact e), fun k hk => hk⟩
      · obtain ⟨z, _, rfl⟩ := List.mem_map.1 hc; rfl
      · rw [List.length_map, icells]
        obtain ⟨o1, o2⟩ := ho
        rcases o2 with ⟨o3, _⟩ | ⟨g', cap', cur', o3, o4, o5, o6, o7, o8, o9⟩
        · cases o3
        · cases o3
          refine ⟨by simp, .inr ⟨g, cap, cur', rfl, o4, o5, by omega, o7, o8, ?_⟩⟩
          rw [Nat.mul_one] at o9 ⊢
          have : cur'.toList.take (Lib.compact zs).length = (cur'.toList.take zs.length).take (Lib.compact zs).length := by rw [List.take_take, Nat.min_eq_left hcl]
          rw [this, o9, List.map_append, List.take_left' (by simp)]
#print axioms compact_ints
end Go.Proofs.Ytokehhegomiciaa
