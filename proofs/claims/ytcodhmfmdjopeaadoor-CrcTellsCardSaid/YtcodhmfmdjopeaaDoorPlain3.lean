/- Plain facts on the sum of chapter 2, more: bits of a row that are turned. -/
import Derived.Test.YtcodhmfmdjopeaaDoorPlain2
namespace Go.Proofs.YtcodhmfmdjopeaaDoor.CrcPlain

/-- one bit of a row is turned -/
def turn (l : List Nat) (p : Nat) : List Nat := l.set (p / 8) (l.getD (p / 8) 0 ^^^ 2 ^ (p % 8))
/-- the bits from a place on, as a number says -/
def turned (bs : List Nat) (at_ : Nat) (o : W) : Nat → List Nat
  | 0 => bs
  | i + 1 => if o.getLsbD i then turn (turned bs at_ o i) (at_ + i) else turned bs at_ o i
theorem turn_length (l : List Nat) (p : Nat) : (turn l p).length = l.length := by simp [turn]
theorem pow_small (p : Nat) : 2 ^ (p % 8) < 2 ^ 8 := Nat.pow_lt_pow_right (by omega) (Nat.mod_lt _ (by omega))
theorem getD_small (l : List Nat) (h : ∀ x ∈ l, x < 256) (i : Nat) : l.getD i 0 < 256 := by
  rw [List.getD_eq_getElem?_getD]
  cases hi : l[i]? with
  | none => simp
  | some y => exact h y (List.mem_of_getElem? hi)
theorem turn_small (l : List Nat) (h : ∀ x ∈ l, x < 256) (p : Nat) : ∀ x ∈ turn l p, x < 256 := by
  intro x hx
  rcases List.mem_or_eq_of_mem_set hx with hx | hx
  · exact h x hx
  · rw [hx]
    have h1 := getD_small l h (p / 8)
    exact Nat.xor_lt_two_pow (n := 8) (by omega) (pow_small p)
theorem turned_length (bs : List Nat) (at_ : Nat) (o : W) (i : Nat) : (turned bs at_ o i).length = bs.length := by
  induction i with
  | zero => rfl
  | succ i ih => unfold turned; split <;> simp [turn_length, ih]
theorem turned_small (bs : List Nat) (h : ∀ x ∈ bs, x < 256) (at_ : Nat) (o : W) (i : Nat) : ∀ x ∈ turned bs at_ o i, x < 256 := by
  induction i with
  | zero => exact h
  | succ i ih =>
    unfold turned
    split
    · exact turn_small _ ih _
    · exact ih
theorem run_turn1 (v : W) (l : List Nat) (h : ∀ x ∈ l, x < 256) (p : Nat) (hp : p < 8 * l.length) : run v (turn l p) = run v l ^^^ shn (8 * l.length - p) 1#32 := by
  have hi : p / 8 < l.length := by omega
  unfold turn
  rw [List.set_eq_take_append_cons_drop, if_pos hi]
  have hx := getD_small l h (p / 8)
  have e : l = l.take (p / 8) ++ l.getD (p / 8) 0 :: l.drop (p / 8 + 1) := by
    rw [List.getD_eq_getElem?_getD, List.getElem?_eq_getElem hi]
    simp
  conv => rhs; rw [e]
  rw [run_turn v (l.take (p / 8)) (l.drop (p / 8 + 1)) (l.getD (p / 8) 0)]
  congr 1
  have hk : p % 8 < 32 := by omega
  have e1 : BitVec.ofNat 32 (l.getD (p / 8) 0) ^^^ BitVec.ofNat 32 (l.getD (p / 8) 0 ^^^ 2 ^ (p % 8)) = BitVec.twoPow 32 (p % 8) := by
    have hs := pow_small p
    rw [ofNat_xor _ _ hx (by omega), ← BitVec.xor_assoc, BitVec.xor_self, BitVec.zero_xor]
    apply BitVec.eq_of_toNat_eq
    rw [BitVec.toNat_ofNat, BitVec.toNat_twoPow]
  have e2 : 8 * (l.drop (p / 8 + 1)).length + 8 = (8 * (l.take (p / 8) ++ l.getD (p / 8) 0 :: l.drop (p / 8 + 1)).length - p) + p % 8 := by
    rw [← e]
    simp only [List.length_drop]
    omega
  rw [e1, e2, shn_add, shn_pow _ hk]
theorem run_turned (v : W) (bs : List Nat) (h : ∀ x ∈ bs, x < 256) (at_ : Nat) (o : W) (hat : at_ + 32 ≤ 8 * bs.length) : ∀ i, i ≤ 32 → run v (turned bs at_ o i) = run v bs ^^^ burst (8 * bs.length) at_ o i := by
  intro i
  induction i with
  | zero => intro _; simp [turned, burst]
  | succ i ih =>
    intro hi
    unfold turned burst
    cases ho : o.getLsbD i
    · simp [ih (by omega)]
    · simp only [if_true]
      rw [run_turn1 v _ (turned_small bs h at_ o i) _ (by rw [turned_length]; omega), ih (by omega), turned_length, BitVec.xor_assoc]
theorem sum_turned (bs : List Nat) (h : ∀ x ∈ bs, x < 256) (at_ : Nat) (o : W) (hat : at_ + 32 ≤ 8 * bs.length) : (sum (turned bs at_ o 32) = sum bs) ↔ o = 0#32 := by
  unfold sum
  rw [run_turned _ bs h at_ o hat 32 (by omega)]
  rw [← burst_zero (8 * bs.length) at_ o hat]
  generalize run (~~~ 0#32) bs = r
  generalize burst (8 * bs.length) at_ o 32 = b
  constructor
  · intro e
    have e1 := congrArg (~~~ ·) e
    simp only [BitVec.not_not] at e1
    have e2 := congrArg (r ^^^ ·) e1
    simp only [← BitVec.xor_assoc, BitVec.xor_self, BitVec.zero_xor] at e2
    exact e2
  · intro e; rw [e, BitVec.xor_zero]

end Go.Proofs.YtcodhmfmdjopeaaDoor.CrcPlain
