/- Which thing each block is, by its number: plain facts. -/
import Derived.Test.YtgakdaohhbdjoaaG6
set_option linter.unusedVariables false
set_option linter.unusedSimpArgs false
namespace Go.Proofs.Ytgakdaohhbdjoaa

/-- what a block is, by its number -/
def whatT (sz ni jr idx : Nat) : Th :=
  if idx < 2 then ⟨idx + 1, 0, 0, 0⟩
  else if idx < 2 + jr then ⟨3, 0, idx - 2, 0⟩
  else if (idx - 2 - jr) % sz < 2 then ⟨4 + (idx - 2 - jr) % sz, (idx - 2 - jr) / sz, (idx - 2 - jr) % sz, 0⟩
  else if (idx - 2 - jr) % sz < 2 + ni / 4 then ⟨6, (idx - 2 - jr) / sz, (idx - 2 - jr) % sz, 1 + (idx - 2 - jr) / sz * ni + 4 * ((idx - 2 - jr) % sz - 2)⟩
  else ⟨7, (idx - 2 - jr) / sz, (idx - 2 - jr) % sz, 0⟩
theorem what_grp (sz ni jr g y : Nat) (hy : y < sz) : whatT sz ni jr (2 + jr + (g * sz + y)) =
    if y < 2 then ⟨4 + y, g, y, 0⟩ else if y < 2 + ni / 4 then ⟨6, g, y, 1 + g * ni + 4 * (y - 2)⟩ else ⟨7, g, y, 0⟩ := by
  have e0 : 2 + jr + (g * sz + y) - 2 - jr = g * sz + y := by omega
  have e1 : (g * sz + y) % sz = y := by rw [Nat.add_comm, Nat.add_mul_mod_self_right, Nat.mod_eq_of_lt hy]
  have e2 : (g * sz + y) / sz = g := by rw [Nat.add_comm, Nat.add_mul_div_right _ _ (by omega), Nat.div_eq_of_lt hy]; omega
  unfold whatT
  rw [e0, e1, e2, if_neg (by omega), if_neg (by omega)]
theorem grp_eq (sz ni jr g : Nat) (h : 2 + ni / 4 ≤ sz) : grp sz ni g = (List.range sz).map fun y => whatT sz ni jr (2 + jr + (g * sz + y)) := by
  have hs : sz = 2 + (ni / 4 + (sz - 2 - ni / 4)) := by omega
  have h1 : (List.range sz).map (fun y => whatT sz ni jr (2 + jr + (g * sz + y))) = (List.range sz).map fun y => (if y < 2 then ⟨4 + y, g, y, 0⟩ else if y < 2 + ni / 4 then ⟨6, g, y, 1 + g * ni + 4 * (y - 2)⟩ else ⟨7, g, y, 0⟩ : Th) :=
    List.map_congr_left fun y hy => what_grp sz ni jr g y (List.mem_range.1 hy)
  rw [h1]
  conv => rhs; rw [hs]
  rw [List.range_add, List.range_add, List.map_append, List.map_append, List.map_append]
  unfold grp
  rw [List.append_assoc]
  congr 1
  simp only [List.map_map]
  congr 1
  · refine List.map_congr_left fun i hi => ?_
    have := List.mem_range.1 hi
    simp only [Function.comp]
    rw [if_neg (by omega), if_pos (by omega)]
    show (⟨6, g, 2 + i, 1 + g * ni + 4 * i⟩ : Th) = _
    rw [show 2 + i - 2 = i by omega]
  · refine List.map_congr_left fun i hi => ?_
    simp only [Function.comp]
    rw [if_neg (by omega), if_neg (by omega)]
    show (⟨7, g, 2 + ni / 4 + i, 0⟩ : Th) = _
    rw [Nat.add_assoc]
theorem allT_eq (gr sz ni jr : Nat) (h : 2 + ni / 4 ≤ sz) : allT gr sz ni jr = (List.range (2 + jr + gr * sz)).map (whatT sz ni jr) := by
  unfold allT
  rw [List.range_add, List.map_append, List.range_add, List.map_append]
  congr 1
  · congr 1
    rw [List.map_map]
    refine List.map_congr_left fun i hi => ?_
    have := List.mem_range.1 hi
    simp only [Function.comp]
    unfold whatT jth
    rw [if_neg (by omega), if_pos (by omega), show 2 + i - 2 = i by omega]
  · rw [List.map_map]
    induction gr with
    | zero => simp
    | succ g ih =>
      rw [List.range_succ, List.flatMap_append, ih, Nat.add_mul, Nat.one_mul, List.range_add, List.map_append]
      congr 1
      simp only [List.flatMap_cons, List.flatMap_nil, List.append_nil, List.map_map]
      rw [grp_eq sz ni jr g h]
      refine List.map_congr_left fun y _ => ?_
      simp only [Function.comp]
theorem allT_length (gr sz ni jr : Nat) (h : 2 + ni / 4 ≤ sz) : (allT gr sz ni jr).length = 2 + jr + gr * sz := by rw [allT_eq gr sz ni jr h]; simp
theorem allT_get (gr sz ni jr k : Nat) (h : 2 + ni / 4 ≤ sz) (hk : k < 2 + jr + gr * sz) : (allT gr sz ni jr)[k]? = some (whatT sz ni jr k) := by
  rw [allT_eq gr sz ni jr h]; simp [hk]
/-- is a block the one of the table that has an inode? -/
def hasIno (ino : Int) (t : Th) : Prop := t.kind = 6 ∧ (t.ino : Int) ≤ ino ∧ ino < (t.ino : Int) + 4
/-- just one block has it -/
theorem hasIno_iff (gr sz ni jr k : Nat) (ino : Int) (h : 2 + ni / 4 ≤ sz) (h4 : ni % 4 = 0) (hn : 4 ≤ ni) (hk : k < 2 + jr + gr * sz) :
    hasIno ino (whatT sz ni jr k) ↔ 1 ≤ ino ∧ ino ≤ (gr : Int) * ni ∧ (k : Int) = 2 + jr + (ino - 1) / ni * sz + 2 + (ino - 1) % ni / 4 := by
  constructor
  · intro ⟨h1, h2, h3⟩
    unfold whatT at h1 h2 h3
    by_cases a1 : k < 2
    · rw [if_pos a1] at h1; simp at h1; omega
    rw [if_neg a1] at h1 h2 h3
    by_cases a2 : k < 2 + jr
    · rw [if_pos a2] at h1; simp at h1
    rw [if_neg a2] at h1 h2 h3
    have hx : k - 2 - jr < gr * sz := by omega
    generalize hxx : k - 2 - jr = x at *
    have hg : x / sz < gr := Nat.div_lt_of_lt_mul (by rw [Nat.mul_comm]; exact hx)
    have hy : x % sz < sz := Nat.mod_lt _ (by omega)
    have hxd := Nat.div_add_mod x sz
    generalize x / sz = g at *
    generalize x % sz = y at *
    by_cases a3 : y < 2
    · rw [if_pos a3] at h1; simp at h1; omega
    rw [if_neg a3] at h1 h2 h3
    by_cases a4 : y < 2 + ni / 4
    · rw [if_pos a4] at h2 h3
      dsimp only at h2 h3
      obtain ⟨i, rfl⟩ : ∃ i, y = 2 + i := ⟨y - 2, by omega⟩
      rw [show 2 + i - 2 = i by omega] at h2 h3
      have e1 : ((1 + g * ni + 4 * i : Nat) : Int) = 1 + (g : Int) * ni + 4 * i := by simp
      rw [e1] at h2 h3
      have hgn : (g : Int) * ni + ni ≤ (gr : Int) * ni := by
        have h5 : ((g : Int) + 1) * ni ≤ (gr : Int) * ni := Int.mul_le_mul_of_nonneg_right (by omega) (by omega)
        rw [Int.add_mul] at h5
        omega
      have hgn0 : 0 ≤ (g : Int) * ni := Int.mul_nonneg (by omega) (by omega)
      have hh := home_at ino ni g (ino - 1 - (g : Int) * ni) (by omega) (by omega) (by omega) (by omega)
      rw [hh.1, hh.2]
      refine ⟨by omega, by omega, ?_⟩
      have e2 : (g : Int) * sz = ((sz * g : Nat) : Int) := by rw [Nat.mul_comm]; simp
      rw [e2]
      omega
    · rw [if_neg a4] at h1; simp at h1
  · intro ⟨h1, h2, h3⟩
    obtain ⟨n, hn'⟩ : ∃ n : Nat, ino - 1 = (n : Int) := ⟨(ino - 1).toNat, by omega⟩
    have hnl : n < gr * ni := by
      have : ((gr * ni : Nat) : Int) = (gr : Int) * ni := by simp
      omega
    rw [hn'] at h3
    have e1 : (n : Int) / ni = ((n / ni : Nat) : Int) := by simp
    have e2 : (n : Int) % ni = ((n % ni : Nat) : Int) := by simp
    rw [e1, e2] at h3
    have hy : n % ni < ni := Nat.mod_lt _ (by omega)
    have hd := Nat.div_add_mod n ni
    generalize hg : n / ni = g at *
    generalize hr : n % ni = r at *
    have e3 : (g : Int) * sz = ((g * sz : Nat) : Int) := by simp
    rw [e3] at h3
    have hke : k = 2 + jr + (g * sz + (2 + r / 4)) := by omega
    rw [hke, what_grp sz ni jr g (2 + r / 4) (by omega), if_neg (by omega), if_pos (by omega)]
    refine ⟨rfl, ?_, ?_⟩ <;> dsimp only
    · have e4 : ni * g = g * ni := Nat.mul_comm _ _
      omega
    · have e4 : ni * g = g * ni := Nat.mul_comm _ _
      omega
end Go.Proofs.Ytgakdaohhbdjoaa
