/- Plain facts on the sum of chapter 2: shifts of 32-bit numbers are linear, products are shifts, a burst is told. No program in sight. -/
namespace Go.Proofs.YtcodhmfmdjopeaaDoor.CrcPlain

abbrev W := BitVec 32

/-- one shift -/
def sh (v : W) : W := (v >>> 1) ^^^ (if v.getLsbD 0 then 0xEDB88320#32 else 0#32)
/-- n shifts -/
def shn : Nat → W → W
  | 0, v => v
  | n + 1, v => sh (shn n v)

theorem sh_zero : sh 0#32 = 0#32 := by decide
theorem sh_xor (a b : W) : sh (a ^^^ b) = sh a ^^^ sh b := by
  unfold sh
  rw [BitVec.ushiftRight_xor_distrib, BitVec.getLsbD_xor]
  cases a.getLsbD 0 <;> cases b.getLsbD 0 <;> simp
  · ac_rfl
  · ac_rfl
  · generalize a >>> 1 = x
    generalize b >>> 1 = y
    have : x ^^^ 3988292384#32 ^^^ (y ^^^ 3988292384#32) = x ^^^ y ^^^ (3988292384#32 ^^^ 3988292384#32) := by ac_rfl
    rw [this, BitVec.xor_self, BitVec.xor_zero]

theorem shn_zero (n : Nat) : shn n 0#32 = 0#32 := by
  induction n with
  | zero => rfl
  | succ n ih => rw [shn, ih, sh_zero]
theorem shn_xor (n : Nat) (a b : W) : shn n (a ^^^ b) = shn n a ^^^ shn n b := by
  induction n with
  | zero => rfl
  | succ n ih => rw [shn, ih, sh_xor]; rfl
theorem shn_add (m n : Nat) (v : W) : shn (m + n) v = shn m (shn n v) := by
  induction m with
  | zero => rw [Nat.zero_add]; rfl
  | succ m ih => rw [Nat.succ_add, shn, ih]; rfl
theorem shn_sh (n : Nat) (v : W) : shn n (sh v) = sh (shn n v) := by
  have h1 := shn_add n 1 v
  have h2 := shn_add 1 n v
  rw [Nat.add_comm] at h2
  rw [h1] at h2
  exact h2
theorem shn_comm (m n : Nat) (v : W) : shn m (shn n v) = shn n (shn m v) := by
  rw [← shn_add, ← shn_add, Nat.add_comm]
theorem shn_ite (n : Nat) (c : Bool) (v : W) : shn n (if c then v else 0#32) = if c then shn n v else 0#32 := by
  cases c
  · simpa using shn_zero n
  · rfl

theorem sh_even (v : W) (h : v.getLsbD 0 = false) : sh v = v >>> 1 := by
  unfold sh; rw [h]; simp
theorem sh_inj (a b : W) (h : sh a = sh b) : a = b := by
  have h31 : ∀ v : W, (sh v).getLsbD 31 = v.getLsbD 0 := by
    intro v
    unfold sh
    rw [BitVec.getLsbD_xor, BitVec.getLsbD_ushiftRight]
    have : v.getLsbD (1 + 31) = false := BitVec.getLsbD_of_ge v 32 (by omega)
    rw [this]
    cases v.getLsbD 0 <;> decide
  have h0 : a.getLsbD 0 = b.getLsbD 0 := by rw [← h31 a, ← h31 b, h]
  unfold sh at h
  rw [h0] at h
  have h1 : a >>> 1 = b >>> 1 := by
    have e := congrArg (· ^^^ (if b.getLsbD 0 then 0xEDB88320#32 else 0#32)) h
    simp only [BitVec.xor_assoc, BitVec.xor_self, BitVec.xor_zero] at e
    exact e
  apply BitVec.eq_of_getLsbD_eq
  intro i hi
  cases i with
  | zero => exact h0
  | succ i =>
    have e := congrArg (fun x => x.getLsbD i) h1
    simp only [BitVec.getLsbD_ushiftRight] at e
    rwa [Nat.add_comm] at e
theorem shn_inj (n : Nat) (a b : W) (h : shn n a = shn n b) : a = b := by
  induction n with
  | zero => exact h
  | succ n ih => exact ih (sh_inj _ _ h)
theorem shn_eq_zero (n : Nat) (a : W) : shn n a = 0#32 ↔ a = 0#32 := by
  constructor
  · intro h; exact shn_inj n _ _ (h.trans (shn_zero n).symm)
  · intro h; rw [h, shn_zero]

/-- the table of four shifts -/
def steps : List Nat := [0x00000000, 0x1DB71064, 0x3B6E20C8, 0x26D930AC, 0x76DC4190, 0x6B6B51F4, 0x4DB26158, 0x5005713C, 0xEDB88320, 0xF00F9344, 0xD6D6A3E8, 0xCB61B38C, 0x9B64C2B0, 0x86D3D2D4, 0xA00AE278, 0xBDBDF21C]
theorem steps_eq : ∀ i, i < 16 → steps.getD i 0 = (shn 4 (BitVec.ofNat 32 i)).toNat := by decide
theorem shn4_shl (x : W) (h : x >>> 28 = 0#32) : shn 4 (x <<< 4) = x := by
  have hb : ∀ i, 28 ≤ i → x.getLsbD i = false := by
    intro i hi
    have e := congrArg (fun y => y.getLsbD (i - 28)) h
    simp only [BitVec.getLsbD_ushiftRight] at e
    rw [Nat.add_sub_cancel' hi] at e
    simpa using e
  have st : ∀ k, k < 4 → sh (x <<< (k + 1)) = x <<< k := by
    intro k hk
    rw [sh_even _ (by rw [BitVec.getLsbD_shiftLeft]; simp)]
    apply BitVec.eq_of_getLsbD_eq
    intro i hi
    rw [BitVec.getLsbD_ushiftRight, BitVec.getLsbD_shiftLeft, BitVec.getLsbD_shiftLeft]
    by_cases h1 : i < k
    · have : 1 + i < k + 1 := by omega
      simp [h1, this]
    · have h2 : ¬ 1 + i < k + 1 := by omega
      have h3 : 1 + i - (k + 1) = i - k := by omega
      by_cases h4 : 1 + i < 32
      · simp [h1, h2, h3, h4, hi]
      · have h5 : x.getLsbD (i - k) = false := hb _ (by omega)
        simp [h5, h3]
  show sh (sh (sh (sh (x <<< 4)))) = x
  rw [st 3 (by omega), st 2 (by omega), st 1 (by omega), st 0 (by omega)]
  simp
theorem shn4 (v : W) : shn 4 v = (v >>> 4) ^^^ shn 4 (v &&& 15#32) := by
  have e : v = ((v >>> 4) <<< 4) ^^^ (v &&& 15#32) := by
    apply BitVec.eq_of_getLsbD_eq
    intro i hi
    rw [BitVec.getLsbD_xor, BitVec.getLsbD_shiftLeft, BitVec.getLsbD_ushiftRight, BitVec.getLsbD_and]
    have h15 : (15#32).getLsbD i = decide (i < 4) := by
      have : ∀ j, j < 32 → (15#32).getLsbD j = decide (j < 4) := by decide
      exact this i hi
    rw [h15]
    by_cases h : i < 4
    · simp [h]
    · simp [h, hi, show 4 + (i - 4) = i by omega]
  have h := shn_xor 4 ((v >>> 4) <<< 4) (v &&& 15#32)
  rw [← e, shn4_shl] at h
  · exact h
  · apply BitVec.eq_of_getLsbD_eq
    intro i hi
    rw [BitVec.getLsbD_ushiftRight, BitVec.getLsbD_ushiftRight]
    rw [BitVec.getLsbD_of_ge _ _ (by omega)]
    simp

/-- a byte goes in -/
def step (v : W) (x : Nat) : W := shn 8 (v ^^^ BitVec.ofNat 32 x)
def run (v : W) (l : List Nat) : W := l.foldl step v
def sum (l : List Nat) : W := ~~~ run (~~~ 0#32) l

theorem run_append (v : W) (a b : List Nat) : run v (a ++ b) = run (run v a) b := List.foldl_append ..
theorem run_xor (l : List Nat) : ∀ v u : W, run (v ^^^ u) l = run v l ^^^ shn (8 * l.length) u := by
  induction l with
  | nil => intro v u; rfl
  | cons x r ih =>
    intro v u
    show run (step (v ^^^ u) x) r = run (step v x) r ^^^ _
    have e : step (v ^^^ u) x = step v x ^^^ shn 8 u := by
      unfold step
      rw [← shn_xor]
      congr 1
      ac_rfl
    rw [e, ih, ← shn_add]
    rw [List.length_cons, show 8 * r.length + 8 = 8 * (r.length + 1) by omega]
theorem run_split (l : List Nat) (v : W) : run v l = run 0#32 l ^^^ shn (8 * l.length) v := by
  rw [← run_xor, BitVec.zero_xor]

/-- what is joined -/
def join (a b : W) (n : Nat) : W := shn (8 * n) a ^^^ b

theorem not_eq (a : W) : ~~~ a = a ^^^ (~~~ 0#32) := by
  apply BitVec.eq_of_getLsbD_eq
  intro i hi
  rw [BitVec.getLsbD_xor, BitVec.getLsbD_not, BitVec.getLsbD_not]
  simp [hi]
theorem sum_append (a b : List Nat) : sum (a ++ b) = join (sum a) (sum b) b.length := by
  unfold sum join
  rw [run_append, run_split b (run _ a), run_split b (~~~ 0#32), not_eq (run _ a), not_eq (_ ^^^ shn _ (run _ a)), not_eq (_ ^^^ shn _ (~~~ 0#32)), shn_xor]
  generalize run 0#32 b = x
  generalize shn (8 * b.length) (run (~~~0#32) a) = y
  generalize shn (8 * b.length) (~~~0#32) = z
  generalize ~~~0#32 = o
  have : y ^^^ z ^^^ (x ^^^ z ^^^ o) = x ^^^ y ^^^ o ^^^ (z ^^^ z) := by ac_rfl
  rw [this, BitVec.xor_self, BitVec.xor_zero]
theorem join_join (a b : W) (n m : Nat) : join a b (n + m) = join (join a 0#32 n) b m := by
  unfold join
  rw [BitVec.xor_zero, ← shn_add]
  congr 2
  omega
theorem join_assoc (x y z : W) (n m : Nat) : join (join x y n) z m = join x (join y z m) (n + m) := by
  unfold join
  rw [shn_xor, ← shn_add, show 8 * m + 8 * n = 8 * (n + m) by omega]
  ac_rfl
theorem join_zero (b : W) (n : Nat) : join 0#32 b n = b := by
  unfold join; rw [shn_zero, BitVec.zero_xor]

/-- the product, k rounds of it -/
def tm : Nat → W → W → W
  | 0, _, _ => 0#32
  | k + 1, a, b => tm k a b ^^^ (if a.getLsbD (31 - k) then shn k b else 0#32)
theorem tm_shn (k m : Nat) (a b : W) : tm k a (shn m b) = shn m (tm k a b) := by
  induction k with
  | zero => exact (shn_zero m).symm
  | succ k ih => rw [tm, tm, shn_xor, ih, shn_ite, shn_comm]
def one : W := 0x80000000#32
theorem shn_one : ∀ k, k < 32 → shn k one = BitVec.twoPow 32 (31 - k) := by decide
theorem tm_one_bit (a : W) : ∀ k, k ≤ 32 → ∀ j, j < 32 → (tm k a one).getLsbD j = (decide (31 - j < k) && a.getLsbD j) := by
  intro k
  induction k with
  | zero => intro _ j _; simp [tm]
  | succ k ih =>
    intro hk j hj
    rw [tm, BitVec.getLsbD_xor, ih (by omega) j hj, shn_one k (by omega)]
    by_cases h : 31 - j = k
    · have h1 : 31 - k = j := by omega
      have h2 : (BitVec.twoPow 32 j).getLsbD j = true := by rw [BitVec.getLsbD_twoPow]; simp [hj]
      rw [h1]
      cases a.getLsbD j <;> simp [h, h2]
    · have h1 : (BitVec.twoPow 32 (31 - k)).getLsbD j = false := by
        rw [BitVec.getLsbD_twoPow]; simp; omega
      have h2 : (if a.getLsbD (31 - k) then BitVec.twoPow 32 (31 - k) else 0#32).getLsbD j = false := by
        cases a.getLsbD (31 - k) <;> simp [h1]
      rw [h2]
      have h3 : decide (31 - j < k + 1) = decide (31 - j < k) := by rw [decide_eq_decide]; omega
      rw [h3]; simp
theorem tm_one (a : W) : tm 32 a one = a := by
  apply BitVec.eq_of_getLsbD_eq
  intro j hj
  rw [tm_one_bit a 32 (by omega) j hj]
  have : decide (31 - j < 32) = true := by simp; omega
  rw [this]; simp
/-- the product by the unit, shifted m times, is m shifts -/
theorem tm_unit (a : W) (m : Nat) : tm 32 a (shn m one) = shn m a := by rw [tm_shn, tm_one]

/-- the bits of a byte that is turned -/
theorem run_turn (v : W) (pre post : List Nat) (x y : Nat) :
    run v (pre ++ y :: post) = run v (pre ++ x :: post) ^^^ shn (8 * post.length + 8) (BitVec.ofNat 32 x ^^^ BitVec.ofNat 32 y) := by
  rw [run_append, run_append]
  show run (step (run v pre) y) post = run (step (run v pre) x) post ^^^ _
  have e : step (run v pre) y = step (run v pre) x ^^^ shn 8 (BitVec.ofNat 32 x ^^^ BitVec.ofNat 32 y) := by
    unfold step
    rw [← shn_xor]
    congr 1
    generalize run v pre = u
    generalize BitVec.ofNat 32 x = p
    generalize BitVec.ofNat 32 y = q
    have : u ^^^ p ^^^ (p ^^^ q) = u ^^^ q ^^^ (p ^^^ p) := by ac_rfl
    rw [this, BitVec.xor_self, BitVec.xor_zero]
  rw [e, run_xor, ← shn_add]
theorem shn_pow : ∀ k, k < 32 → shn k (BitVec.twoPow 32 k) = 1#32 := by decide
/-- what the bits of a number, laid at a place, come to -/
def burst (N at_ : Nat) (o : W) : Nat → W
  | 0 => 0#32
  | i + 1 => burst N at_ o i ^^^ (if o.getLsbD i then shn (N - (at_ + i)) 1#32 else 0#32)
def low (o : W) : Nat → W
  | 0 => 0#32
  | i + 1 => low o i ^^^ (if o.getLsbD i then BitVec.twoPow 32 i else 0#32)
theorem low_bit (o : W) : ∀ k, k ≤ 32 → ∀ j, j < 32 → (low o k).getLsbD j = (decide (j < k) && o.getLsbD j) := by
  intro k
  induction k with
  | zero => intro _ j _; simp [low]
  | succ k ih =>
    intro hk j hj
    rw [low, BitVec.getLsbD_xor, ih (by omega) j hj]
    by_cases h : j = k
    · subst h
      have h2 : (BitVec.twoPow 32 j).getLsbD j = true := by rw [BitVec.getLsbD_twoPow]; simp [hj]
      cases o.getLsbD j <;> simp [h2]
    · have h1 : (BitVec.twoPow 32 k).getLsbD j = false := by
        rw [BitVec.getLsbD_twoPow]; simp; omega
      have h2 : (if o.getLsbD k then BitVec.twoPow 32 k else 0#32).getLsbD j = false := by
        cases o.getLsbD k <;> simp [h1]
      have h3 : decide (j < k + 1) = decide (j < k) := by rw [decide_eq_decide]; omega
      rw [h2, h3]; simp
theorem low_all (o : W) : low o 32 = o := by
  apply BitVec.eq_of_getLsbD_eq
  intro j hj
  rw [low_bit o 32 (by omega) j hj]
  simp [hj]
theorem burst_eq (N at_ : Nat) (o : W) (h : at_ + 32 ≤ N) : ∀ i, i ≤ 32 → burst N at_ o i = shn (N - at_) (low o i) := by
  intro i
  induction i with
  | zero => intro _; exact (shn_zero _).symm
  | succ i ih =>
    intro hi
    rw [burst, low, shn_xor, ih (by omega), shn_ite]
    congr 1
    have e : N - at_ = (N - (at_ + i)) + i := by omega
    rw [e, shn_add, shn_pow i (by omega)]
theorem burst_zero (N at_ : Nat) (o : W) (h : at_ + 32 ≤ N) : burst N at_ o 32 = 0#32 ↔ o = 0#32 := by
  rw [burst_eq N at_ o h 32 (by omega), low_all, shn_eq_zero]

end Go.Proofs.YtcodhmfmdjopeaaDoor.CrcPlain
