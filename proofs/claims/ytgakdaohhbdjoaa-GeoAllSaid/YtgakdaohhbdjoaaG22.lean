/- How many blocks there are of each kind: plain facts; and a row of counts in memory. -/
import Derived.Test.YtgakdaohhbdjoaaG21
set_option linter.unusedVariables false
set_option linter.unusedSimpArgs false
namespace Go.Proofs.Ytgakdaohhbdjoaa
open Go.RowKit Go.Shelf

def isK (j : Nat) (t : Th) : Bool := t.kind == j
def kcnt (sz ni jr j b : Nat) : Nat := (((List.range b).map (whatT sz ni jr)).filter (isK j)).length
theorem kcnt_succ (sz ni jr j b : Nat) : kcnt sz ni jr j (b + 1) = kcnt sz ni jr j b + if j = (whatT sz ni jr b).kind then 1 else 0 := by
  unfold kcnt
  rw [List.range_succ, List.map_append, List.filter_append, List.length_append]
  by_cases h : j = (whatT sz ni jr b).kind
  · simp [isK, h]
  · have h' : ¬ (whatT sz ni jr b).kind = j := fun e => h e.symm
    simp [isK, h, h']
theorem kcnt_le (sz ni jr j b : Nat) : kcnt sz ni jr j b ≤ b := by
  unfold kcnt
  exact Nat.le_trans (List.length_filter_le _ _) (by simp)
theorem filt_none {l : List Th} {j : Nat} (h : ∀ t ∈ l, t.kind ≠ j) : (l.filter (isK j)).length = 0 := by
  rw [List.length_eq_zero_iff, List.filter_eq_nil_iff]
  intro a ha
  have := h a ha
  simp [isK, this]
theorem filt_all {l : List Th} {j : Nat} (h : ∀ t ∈ l, t.kind = j) : (l.filter (isK j)).length = l.length := by
  rw [List.filter_eq_self.2]
  intro a ha
  have := h a ha
  simp [isK, this]
theorem kcnt_all (gr sz ni jr j : Nat) (h : 2 + ni / 4 ≤ sz) : kcnt sz ni jr j (2 + jr + gr * sz) =
    (if j = 1 then 1 else 0) + (if j = 2 then 1 else 0) + (if j = 3 then jr else 0) + gr * ((if j = 4 then 1 else 0) + (if j = 5 then 1 else 0) + (if j = 6 then ni / 4 else 0) + (if j = 7 then sz - 2 - ni / 4 else 0)) := by
  unfold kcnt
  rw [← allT_eq gr sz ni jr h]
  unfold allT
  rw [List.filter_append, List.filter_append, List.length_append, List.length_append]
  have h1 : (head2.filter (isK j)).length = (if j = 1 then 1 else 0) + (if j = 2 then 1 else 0) := by
    unfold head2
    simp only [List.filter_cons, List.filter_nil, isK]
    by_cases a : j = 1
    · subst a; simp
    · by_cases b : j = 2
      · subst b; simp
      · simp [Ne.symm a, Ne.symm b, a, b]
  have h2 : (((List.range jr).map jth).filter (isK j)).length = if j = 3 then jr else 0 := by
    by_cases a : j = 3
    · rw [if_pos a, filt_all]
      · simp
      · intro t ht; obtain ⟨i, _, rfl⟩ := List.mem_map.1 ht; exact a.symm
    · rw [if_neg a, filt_none]
      intro t ht; obtain ⟨i, _, rfl⟩ := List.mem_map.1 ht; exact fun e => a e.symm
  have h3 : ∀ g, ((grp sz ni g).filter (isK j)).length = (if j = 4 then 1 else 0) + (if j = 5 then 1 else 0) + (if j = 6 then ni / 4 else 0) + (if j = 7 then sz - 2 - ni / 4 else 0) := by
    intro g
    unfold grp
    rw [List.filter_append, List.filter_append, List.length_append, List.length_append]
    have a1 : ((grp2 g).filter (isK j)).length = (if j = 4 then 1 else 0) + (if j = 5 then 1 else 0) := by
      unfold grp2
      simp only [List.filter_cons, List.filter_nil, isK]
      by_cases a : j = 4
      · subst a; simp
      · by_cases b : j = 5
        · subst b; simp
        · simp [Ne.symm a, Ne.symm b, a, b]
    have a2 : (((List.range (ni / 4)).map (tth ni g)).filter (isK j)).length = if j = 6 then ni / 4 else 0 := by
      by_cases a : j = 6
      · rw [if_pos a, filt_all]
        · simp
        · intro t ht; obtain ⟨i, _, rfl⟩ := List.mem_map.1 ht; exact a.symm
      · rw [if_neg a, filt_none]
        intro t ht; obtain ⟨i, _, rfl⟩ := List.mem_map.1 ht; exact fun e => a e.symm
    have a3 : (((List.range (sz - 2 - ni / 4)).map (dth ni g)).filter (isK j)).length = if j = 7 then sz - 2 - ni / 4 else 0 := by
      by_cases a : j = 7
      · rw [if_pos a, filt_all]
        · simp
        · intro t ht; obtain ⟨i, _, rfl⟩ := List.mem_map.1 ht; exact a.symm
      · rw [if_neg a, filt_none]
        intro t ht; obtain ⟨i, _, rfl⟩ := List.mem_map.1 ht; exact fun e => a e.symm
    rw [a1, a2, a3]
  have h4 : ∀ n, (((List.range n).flatMap (grp sz ni)).filter (isK j)).length = n * ((if j = 4 then 1 else 0) + (if j = 5 then 1 else 0) + (if j = 6 then ni / 4 else 0) + (if j = 7 then sz - 2 - ni / 4 else 0)) := by
    intro n
    induction n with
    | zero => simp
    | succ n ih =>
      rw [List.range_succ, List.flatMap_append, List.filter_append, List.length_append, ih]
      simp only [List.flatMap_cons, List.flatMap_nil, List.append_nil]
      rw [h3, Nat.add_mul, Nat.one_mul]
  rw [h1, h2, h4]

/-- the row of counts -/
def Cnt (W : World) (BC sz ni jr b : Nat) : Prop := ∀ j, j < 9 → W.cell? ⟨BC, j, none⟩ = some (.int .i64 (kcnt sz ni jr j b : Int)) ∧ W.frozen? ⟨BC, j, none⟩ = false
theorem Cnt.grow {W W' : World} {BC sz ni jr b : Nat} (h : Cnt W BC sz ni jr b) (hg : Grow W W') (hb : BC < W.heap.size) : Cnt W' BC sz ni jr b :=
  fun j hj => ⟨(Below.cell hg (p := ⟨BC, j, none⟩) hb).trans (h j hj).1, (Below.frozen hg (p := ⟨BC, j, none⟩) hb).trans (h j hj).2⟩
theorem Cnt.step {W : World} {BC sz ni jr b k : Nat} (h : Cnt W BC sz ni jr b) (hk : (whatT sz ni jr b).kind = k) (hk9 : k < 9) : Cnt (W.setCell ⟨BC, k, none⟩ (.int .i64 ((kcnt sz ni jr k b + 1 : Nat) : Int))) BC sz ni jr (b + 1) := by
  intro j hj
  refine ⟨?_, by rw [World.frozen?_setCell]; exact (h j hj).2⟩
  rw [kcnt_succ, hk]
  by_cases e : j = k
  · subst e
    rw [if_pos rfl]
    exact World.cell?_setCell_same' _ _ _ (by rw [(h j hj).1]; rfl)
  · rw [if_neg e, World.cell?_setCell_other _ _ _ _ (fun c => e (by cases c; rfl))]
    exact (h j hj).1
theorem what_cases (gr sz ni jr b : Nat) (hs : 0 < sz) (hb : b < 2 + jr + gr * sz) : (b = 0 ∧ whatT sz ni jr b = ⟨1, 0, 0, 0⟩) ∨ (b = 1 ∧ whatT sz ni jr b = ⟨2, 0, 0, 0⟩) ∨ (2 ≤ b ∧ b < 2 + jr ∧ whatT sz ni jr b = ⟨3, 0, b - 2, 0⟩) ∨
    (∃ tk tg tp ti, whatT sz ni jr b = ⟨tk, tg, tp, ti⟩ ∧ 4 ≤ tk ∧ tk ≤ 7 ∧ tg < gr ∧ 2 + jr + tg * sz + tp = b) := by
  unfold whatT
  by_cases a1 : b < 2
  · rw [if_pos a1]
    by_cases a0 : b = 0
    · exact .inl ⟨a0, by rw [a0]⟩
    · obtain rfl : b = 1 := by omega
      exact .inr (.inl ⟨rfl, rfl⟩)
  rw [if_neg a1]
  by_cases a2 : b < 2 + jr
  · rw [if_pos a2]; exact .inr (.inr (.inl ⟨by omega, a2, rfl⟩))
  rw [if_neg a2]
  refine .inr (.inr (.inr ?_))
  obtain ⟨x, rfl⟩ : ∃ x, b = 2 + jr + x := ⟨b - 2 - jr, by omega⟩
  rw [show 2 + jr + x - 2 - jr = x by omega]
  have hd := Nat.div_add_mod x sz
  have hm := Nat.mod_lt x hs
  have hgx : x / sz < gr := Nat.div_lt_of_lt_mul (by rw [Nat.mul_comm]; omega)
  have e : sz * (x / sz) = x / sz * sz := Nat.mul_comm _ _
  split
  · exact ⟨_, _, _, _, rfl, by omega, by omega, hgx, by omega⟩
  split
  · exact ⟨_, _, _, _, rfl, by omega, by omega, hgx, by omega⟩
  · exact ⟨_, _, _, _, rfl, by omega, by omega, hgx, by omega⟩
theorem mk9 : ∀ w : World, (Instr.makeSlice 36 (.int .i64 9) (.int .i64 9)).run Try.prog w = .ok (.slice (some ⟨w.heap.size, 0, none⟩) 9 9) (w.alloc (.cells #[.int .i64 0, .int .i64 0, .int .i64 0, .int .i64 0, .int .i64 0, .int .i64 0, .int .i64 0, .int .i64 0, .int .i64 0] 3)) := fun _ => by kernel_rfl
theorem cnt_new (w : World) (sz ni jr : Nat) : Cnt (w.alloc (.cells #[.int .i64 0, .int .i64 0, .int .i64 0, .int .i64 0, .int .i64 0, .int .i64 0, .int .i64 0, .int .i64 0, .int .i64 0] 3)) w.heap.size sz ni jr 0 := by
  intro j hj
  have hk : kcnt sz ni jr j 0 = 0 := rfl
  rw [cell_new, hk]
  refine ⟨?_, ?_⟩
  · obtain rfl | rfl | rfl | rfl | rfl | rfl | rfl | rfl | rfl : j = 0 ∨ j = 1 ∨ j = 2 ∨ j = 3 ∨ j = 4 ∨ j = 5 ∨ j = 6 ∨ j = 7 ∨ j = 8 := by omega
    all_goals rfl
  · go_simp
end Go.Proofs.Ytgakdaohhbdjoaa
