/- Twins go on: the plain side, and does for Flush, Power, Write. -/
import Derived.Test.YtieknecbheeekaaD42
set_option linter.unusedVariables false
set_option linter.unusedSimpArgs false
namespace Go.Proofs.Ytieknecbheeekaa
open Go.RowKit

/-- what of a twin is no memory -/
structure Fair (k : Nat) (d : DS) : Prop where
  last : d.last = applyW d.safe d.ws
  wlt : ∀ p ∈ d.ws, p.1 < d.safe.length
  ws : d.ws.length ≤ k
  acts : 0 ≤ d.acts ∧ d.acts ≤ k
  left : 0 ≤ d.left ∧ d.left ≤ 9223372036854775807
theorem Fair.more {k : Nat} {d : DS} (h : Fair k d) : Fair (k + 1) d := { h with ws := Nat.le_succ_of_le h.ws, acts := ⟨h.acts.1, by have := h.acts.2; omega⟩ }
theorem Fair.lefts {k : Nat} {d : DS} (h : Fair k d) (hd : d.dead = false) : 0 ≤ (if d.set then d.left - 1 else d.left) ∧ (if d.set then d.left - 1 else d.left) ≤ 9223372036854775807 := by
  have := h.left
  unfold DS.dead at hd
  cases hs : d.set
  · simp; omega
  · rw [hs] at hd; simp at hd; simp; omega
theorem Fair.flushed {k : Nat} {d : DS} (h : Fair k d) (hd : d.dead = false) : Fair (k + 1) d.flushed where
  last := h.last
  wlt := fun p hp => by cases hp
  ws := Nat.zero_le _
  acts := by show 0 ≤ d.acts + 1 ∧ d.acts + 1 ≤ _; have := h.acts; omega
  left := h.lefts hd
theorem Fair.wrote {k : Nat} {d : DS} (h : Fair k d) (hd : d.dead = false) (b : Nat) (hb : b < d.safe.length) (x : Blk) : Fair (k + 1) (d.wrote b x) where
  last := by show d.last.set b x = applyW d.safe (d.ws ++ [(b, x)]); rw [applyW_snoc, h.last]
  wlt := fun p hp => by
    rcases List.mem_append.1 (show p ∈ d.ws ++ [(b, x)] from hp) with h1 | h1
    · exact h.wlt p h1
    · rw [List.mem_singleton.1 h1]; exact hb
  ws := by show (d.ws ++ [(b, x)]).length ≤ k + 1; rw [List.length_append]; have := h.ws; simp; omega
  acts := by show 0 ≤ d.acts + 1 ∧ d.acts + 1 ≤ _; have := h.acts; omega
  left := h.lefts hd
theorem DS.why_ok {d : DS} {b : Int} (h : d.why b = 0) : d.dead = false ∧ 0 ≤ b ∧ b < d.safe.length := by
  unfold DS.why at h
  have hd : d.dead = false := by
    cases e : d.dead
    · rfl
    · rw [e, if_pos rfl] at h; cases h
  rw [hd, if_neg (by simp)] at h
  refine ⟨hd, ?_⟩
  by_cases c : 0 ≤ b ∧ b < d.safe.length
  · exact c
  · rw [if_neg c] at h; cases h
theorem Fair.tried {k : Nat} {d : DS} (h : Fair k d) (b : Int) (x : Blk) : Fair (k + 1) (d.tried b x) := by
  unfold DS.tried
  by_cases hy : d.why b = 0
  · rw [if_pos hy]
    obtain ⟨hd, h0, h1⟩ := DS.why_ok hy
    exact h.wrote hd _ (by omega) x
  · rw [if_neg hy]
    exact h.more
theorem Fair.crashed {k : Nat} {d : DS} (h : Fair k d) (ks : List Bool) : Fair k (d.crashed ks) where
  last := rfl
  wlt := fun p hp => by cases hp
  ws := Nat.zero_le _
  acts := h.acts
  left := ⟨Int.le_refl _, by show (0 : Int) ≤ _; omega⟩
theorem Fair.powered {k : Nat} {d : DS} (h : Fair k d) (a : Int) (ha : a ≤ 9223372036854775807) : Fair k (d.powered a) where
  last := h.last
  wlt := h.wlt
  ws := h.ws
  acts := h.acts
  left := by show 0 ≤ (if 0 ≤ a then a else 0) ∧ (if 0 ≤ a then a else 0) ≤ _; split <;> omega
theorem rtried_ok {w : World} {R : Nat} {T : List Nat} {d : DS} (h : IsRef w R T d) (b : Int) (x : Blk) (hx : x.length = 256) (hw : d.ws.length ≤ 100000) (ha : 0 ≤ d.acts ∧ d.acts ≤ 1000000) (hl : 0 ≤ d.left ∧ d.left ≤ 9223372036854775807) :
    Calls Try.prog 33 #[.pointer (some ⟨R, 0, none⟩), .int .i64 b, .agg (bc x).toArray] w (RPost R T (d.tried b x) (.int .i64 (d.why b)) w) := by
  by_cases hy : d.why b = 0
  · obtain ⟨hd, h0, h1⟩ := DS.why_ok hy
    obtain ⟨n, rfl⟩ : ∃ n : Nat, b = (n : Int) := ⟨b.toNat, by omega⟩
    refine (rwrite_ok h n (by omega) x hx hd hw ha hl).mono ?_
    rintro e w' ⟨rfl, T', h2, h3, h4⟩
    exact ⟨by rw [hy], T', by unfold DS.tried; rw [if_pos hy]; exact h2, h3, h4⟩
  · refine (rwrite_no h b x hy).mono ?_
    rintro e w' ⟨rfl, hg⟩
    exact ⟨rfl, T, by unfold DS.tried; rw [if_neg hy]; exact h.kept (Touch.of_below (S := []) hg) (by simp), Touch.of_below hg, fun k hk => .inl hk⟩
theorem IsRef.lt {w : World} {R : Nat} {T : List Nat} {d : DS} (h : IsRef w R T d) : ∀ k ∈ T, k < w.heap.size := by
  obtain ⟨g, c, vw, h⟩ := h
  exact h.lt
end Go.Proofs.Ytieknecbheeekaa
