/- Plain facts on the sum of chapter 2, more: the exclusive or of three rows. -/
import Derived.Test.YtcodhmfmdjopeaaDoorPlain
namespace Go.Proofs.YtcodhmfmdjopeaaDoor.CrcPlain

def mix (a b c : List Nat) (n : Nat) : List Nat := (List.range n).map fun i => a.getD i 0 ^^^ b.getD i 0 ^^^ c.getD i 0
theorem ofNat_xor (a b : Nat) (ha : a < 256) (hb : b < 256) : BitVec.ofNat 32 (a ^^^ b) = BitVec.ofNat 32 a ^^^ BitVec.ofNat 32 b := by
  apply BitVec.eq_of_toNat_eq
  have h : a ^^^ b < 2 ^ 8 := Nat.xor_lt_two_pow (by omega) (by omega)
  rw [BitVec.toNat_xor, BitVec.toNat_ofNat, BitVec.toNat_ofNat, BitVec.toNat_ofNat, Nat.mod_eq_of_lt (by omega), Nat.mod_eq_of_lt (by omega), Nat.mod_eq_of_lt (by omega)]
theorem step_mix (u v x : W) (a b c : Nat) (ha : a < 256) (hb : b < 256) (hc : c < 256) : step (u ^^^ v ^^^ x) (a ^^^ b ^^^ c) = step u a ^^^ step v b ^^^ step x c := by
  unfold step
  rw [← shn_xor, ← shn_xor]
  congr 1
  have h : a ^^^ b < 2 ^ 8 := Nat.xor_lt_two_pow (by omega) (by omega)
  rw [ofNat_xor _ _ (by omega) hc, ofNat_xor _ _ ha hb]
  ac_rfl
theorem take_succ_getD (l : List Nat) (n : Nat) (h : n < l.length) : l.take (n + 1) = l.take n ++ [l.getD n 0] := by
  rw [List.take_succ_eq_append_getElem h, List.getD_eq_getElem?_getD, List.getElem?_eq_getElem h]; rfl
theorem run_mix (a b c : List Nat) (ha : ∀ x ∈ a, x < 256) (hb : ∀ x ∈ b, x < 256) (hc : ∀ x ∈ c, x < 256) (u v x : W) : ∀ n, n ≤ a.length → n ≤ b.length → n ≤ c.length →
    run (u ^^^ v ^^^ x) (mix a b c n) = run u (a.take n) ^^^ run v (b.take n) ^^^ run x (c.take n) := by
  intro n
  induction n with
  | zero => intro _ _ _; simp [mix, run]
  | succ n ih =>
    intro h1 h2 h3
    have g : ∀ (l : List Nat), (∀ x ∈ l, x < 256) → n < l.length → l.getD n 0 < 256 := fun l hl hn => by
      rw [List.getD_eq_getElem?_getD, List.getElem?_eq_getElem hn]; exact hl _ (List.getElem_mem hn)
    have e : mix a b c (n + 1) = mix a b c n ++ [a.getD n 0 ^^^ b.getD n 0 ^^^ c.getD n 0] := by simp [mix, List.range_succ]
    rw [e, take_succ_getD a n (by omega), take_succ_getD b n (by omega), take_succ_getD c n (by omega), run_append, run_append, run_append, run_append, ih (by omega) (by omega) (by omega)]
    exact step_mix _ _ _ _ _ _ (g a ha (by omega)) (g b hb (by omega)) (g c hc (by omega))
theorem sum_mix (a b c : List Nat) (ha : ∀ x ∈ a, x < 256) (hb : ∀ x ∈ b, x < 256) (hc : ∀ x ∈ c, x < 256) (n : Nat) (h1 : n ≤ a.length) (h2 : n ≤ b.length) (h3 : n ≤ c.length) :
    sum (mix a b c n) = sum (a.take n) ^^^ sum (b.take n) ^^^ sum (c.take n) := by
  have h := run_mix a b c ha hb hc (~~~ 0#32) (~~~ 0#32) (~~~ 0#32) n h1 h2 h3
  rw [BitVec.xor_self, BitVec.zero_xor] at h
  unfold sum
  rw [h, not_eq (_ ^^^ _ ^^^ _), not_eq (run _ (a.take n)), not_eq (run _ (b.take n)), not_eq (run _ (c.take n))]
  generalize run (~~~ 0#32) (a.take n) = p
  generalize run (~~~ 0#32) (b.take n) = q
  generalize run (~~~ 0#32) (c.take n) = r
  generalize ~~~ 0#32 = o
  have : p ^^^ o ^^^ (q ^^^ o) ^^^ (r ^^^ o) = p ^^^ q ^^^ r ^^^ o ^^^ (o ^^^ o) := by ac_rfl
  rw [this, BitVec.xor_self, BitVec.xor_zero]
theorem mix_length (a b c : List Nat) (n : Nat) : (mix a b c n).length = n := by simp [mix]
theorem mix_succ (a b c : List Nat) (n : Nat) : mix a b c (n + 1) = mix a b c n ++ [a.getD n 0 ^^^ b.getD n 0 ^^^ c.getD n 0] := by simp [mix, List.range_succ]
theorem mix_small (a b c : List Nat) (ha : ∀ x ∈ a, x < 256) (hb : ∀ x ∈ b, x < 256) (hc : ∀ x ∈ c, x < 256) (n : Nat) : ∀ x ∈ mix a b c n, x < 256 := by
  intro x hx
  obtain ⟨i, _, rfl⟩ := List.mem_map.1 hx
  have g : ∀ (l : List Nat), (∀ x ∈ l, x < 256) → l.getD i 0 < 2 ^ 8 := fun l hl => by
    rw [List.getD_eq_getElem?_getD]
    cases h : l[i]? with
    | none => simp
    | some y => exact hl y (List.mem_of_getElem? h)
  exact Nat.xor_lt_two_pow (Nat.xor_lt_two_pow (g a ha) (g b hb)) (g c hc)

end Go.Proofs.YtcodhmfmdjopeaaDoor.CrcPlain
