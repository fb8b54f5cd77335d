/- What the functions of package crc compute: the walks. -/
import Derived.Test.YtcodhmfmdjopeaaDoorRows
import Derived.Test.YtcodhmfmdjopeaaDoorPlain
import Derived.WalkKit
import Derived.WalkSpells
import Derived.WalkLawsBesides
import Derived.Lib.Hide
import Derived.Deep.AppendLies
import Derived.Deep.Draws
namespace Go.Proofs.YtcodhmfmdjopeaaDoor
open Go.RowKit
open CrcPlain (sh shn tm steps one)

/-- a number of 32 bits as a value -/
def V (v : BitVec 32) : Value := .int .u32 (v.toNat : Int)

theorem lt32 (v : BitVec 32) : v.toNat < 4294967296 := v.isLt
theorem b_xor (a b : BitVec 32) : bits .xor .u32 (a.toNat : Int) (b.toNat : Int) = ((a ^^^ b).toNat : Int) := by
  rw [u32_xor_nat _ _ (lt32 a) (lt32 b), BitVec.toNat_xor]
theorem b_and (a b : BitVec 32) : bits .and .u32 (a.toNat : Int) (b.toNat : Int) = ((a &&& b).toNat : Int) := by
  rw [u32_and_nat _ _ (lt32 a) (lt32 b), BitVec.toNat_and]
theorem b_shr (a : BitVec 32) (k : Nat) : (a.toNat : Int) / ((2 ^ k : Nat) : Int) = ((a >>> k).toNat : Int) := by
  rw [BitVec.toNat_ushiftRight, Nat.shiftRight_eq_div_pow]; simp
theorem b_and1 (v : BitVec 32) : (bits .and .u32 (v.toNat : Int) 1 != 0) = v.getLsbD 0 := by
  have h := b_and v 1#32
  rw [show ((1#32).toNat : Int) = 1 from rfl] at h
  rw [h]
  have e : (v &&& 1#32).toNat = (v.getLsbD 0).toNat := by
    rw [BitVec.toNat_and]
    show v.toNat &&& 1 = _
    rw [Nat.and_one_is_mod, BitVec.getLsbD, Nat.testBit_zero]
    rcases Nat.mod_two_eq_zero_or_one v.toNat with h | h <;> simp [h]
  rw [e]
  cases v.getLsbD 0 <;> rfl

theorem b_shr1 (a : BitVec 32) : (a.toNat : Int) / (2 : Int) = ((a >>> 1).toNat : Int) := b_shr a 1
theorem b_shr4 (a : BitVec 32) : (a.toNat : Int) / (16 : Int) = ((a >>> 4).toNat : Int) := b_shr a 4
theorem ret_int {k : IntKind} {a b : Int} (h : a = b) : Ending.returned (.int k a) = .returned (.int k b) := by rw [h]

set_option maxHeartbeats 400000 in
theorem shift_any (v : BitVec 32) (w : World) :
    Calls Tryd.prog 19 #[V v] w fun e w' => e = .returned (V (sh v)) ∧ w = w' := by
  have h1 := b_and1 v
  have h3 := b_xor (v >>> 1) 0xEDB88320#32
  rw [show ((0xEDB88320#32).toNat : Int) = 3988292384 from rfl, ← b_shr1] at h3
  have H3 := Lib.hid h3
  clear h3
  cases hb : v.getLsbD 0
  · rw [hb] at h1
    unfold V
    go_enter Tryd.func19, Tryd.ntmps19
    go_wp2
    go_ret
    refine ⟨ret_int ?_, rfl⟩
    unfold sh
    rw [hb, b_shr1]
    simp
  · rw [hb] at h1
    unfold V
    go_enter Tryd.func19, Tryd.ntmps19
    go_wp2
    go_ret
    refine ⟨ret_int ?_, rfl⟩
    unfold sh
    rw [hb, H3.out]
    rfl

/-- the mask of round k: the unit, k places down; 0 behind the last -/
def mask (k : Nat) : Nat := 2147483648 / 2 ^ k
theorem mask_succ (k : Nat) : (mask k : Int) / 2 = (mask (k + 1) : Int) := by
  unfold mask
  rw [Nat.pow_succ, ← Nat.div_div_eq_div_mul]; simp
theorem mask_pow (k : Nat) (hk : k < 32) : mask k = 2 ^ (31 - k) := by
  unfold mask
  rw [show (2147483648 : Nat) = 2 ^ 31 from rfl, Nat.pow_div (by omega) (by omega)]
theorem mask_32 : mask 32 = 0 := rfl
theorem and_mask (a : BitVec 32) (k : Nat) (hk : k < 32) : (bits .and .u32 (a.toNat : Int) (mask k : Int) != 0) = a.getLsbD (31 - k) := by
  have e : mask k = (BitVec.twoPow 32 (31 - k)).toNat := by
    rw [mask_pow k hk, BitVec.toNat_twoPow, Nat.mod_eq_of_lt (Nat.pow_lt_pow_right (by omega) (by omega))]
  rw [e, b_and, BitVec.and_twoPow]
  cases a.getLsbD (31 - k)
  · rfl
  · have : (BitVec.twoPow 32 (31 - k)).toNat ≠ 0 := by rw [← e, mask_pow k hk]; have := Nat.pow_pos (n := 31 - k) (show 0 < 2 by omega); omega
    simp only [if_true, bne_iff_ne, ne_eq]
    omega

set_option maxHeartbeats 1000000 in
theorem times_any (a b : BitVec 32) (w : World) :
    Calls Tryd.prog 18 #[V a, V b] w fun e w' => e = .returned (V (tm 32 a b)) ∧ w = w' := by
  go_enter Tryd.func18, Tryd.ntmps18
  go_wp2_with fail
  go_loop [1, 5, 6] (fun tb tv tm_ => ∃ k : Nat, k ≤ 32 ∧ tb = V (shn k b) ∧ tv = V (tm k a b) ∧ tm_ = .int .u32 (mask k : Int)) (fun _ _ m => (intOf m).toNat)
  case atStart => exact ⟨0, by omega, rfl, rfl, rfl⟩
  case round =>
    obtain ⟨k, hk, rfl, rfl, rfl⟩ := hrel
    by_cases hlt : k < 32
    · have hm := mask_pow k hlt
      have hp : 0 < 2 ^ (31 - k) := Nat.pow_pos (by omega)
      have hd : 2 ^ (31 - k) ≤ 2 ^ 31 := Nat.pow_le_pow_right (by omega) (by omega)
      have hge : 0 < mask k := by omega
      have hle : mask k ≤ 2147483648 := by omega
      have hne : ((mask k : Int) != 0) = true := by rw [bne_iff_ne]; omega
      have hbit := and_mask a k hlt
      have hx := b_xor (tm k a b) (shn k b)
      have hs := mask_succ k
      clear hm hp hd
      cases hb : a.getLsbD (31 - k)
      all_goals
        rw [hb] at hbit
        have Hb := Lib.hid hb
        clear hb
        have HX := Lib.hid hx
        have HS := Lib.hid hs
        clear hx hs
        generalize hu : tm k a b = u at *
        generalize hv : shn k b = v at *
        have HU := Lib.hid hu
        have HV := Lib.hid hv
        clear hu hv
        unfold V
        go_wp2_with (go_at_call 19; refine (shift_any _ _).mono ?_; rintro e w' ⟨rfl, rfl⟩)
        go_round
        case rel =>
          refine ⟨k + 1, by omega, ?_, ?_, ?_⟩
          · show _ = V (sh (shn k b)); rw [HV.out]
          · unfold tm
            rw [Hb.out, HU.out]
            first
              | (rw [HX.out, HV.out]; rfl)
              | (simp; done)
          · rw [HS.out]
        case measure => simp only [intOf]; omega
    · obtain rfl : k = 32 := by omega
      have e0 : mask 32 = 0 := rfl
      have hne : ((mask 32 : Int) != 0) = false := by rw [e0]; rfl
      generalize hu : tm 32 a b = u at *
      have HU := Lib.hid hu
      clear hu e0
      unfold V
      go_wp2_with fail
      go_ret
      exact ⟨by rw [HU.out]; rfl, rfl⟩


theorem and_one_i64 (n : Nat) : bits .and .i64 (n : Int) 1 = ((n % 2 : Nat) : Int) := by
  have h : (BitVec.ofInt 64 (n : Int) &&& BitVec.ofInt 64 1).toNat = n % 2 := by
    rw [BitVec.toNat_and, BitVec.ofInt_natCast, BitVec.toNat_ofNat]
    show n % 2 ^ 64 &&& 1 = _
    rw [Nat.and_one_is_mod]
    omega
  show IntKind.i64.wrap ((BitVec.ofInt 64 (n : Int) &&& BitVec.ofInt 64 1).toNat : Int) = _
  rw [h, IntKind.wrap_i64]
  omega

/-- what is left of a number, and what is done of it, behind k rounds -/
theorem rounds_done (n k : Nat) : n % 2 ^ (k + 1) = n % 2 ^ k + 2 ^ k * (n / 2 ^ k % 2) := by
  rw [Nat.pow_succ, Nat.mod_mul]
theorem rounds_left (n k : Nat) : n / 2 ^ k / 2 = n / 2 ^ (k + 1) := by
  rw [Nat.pow_succ, Nat.div_div_eq_div_mul]

def pw (k : Nat) : BitVec 32 := shn (8 * 2 ^ k) one
theorem pw_zero : V (pw 0) = .int .u32 8388608 := by unfold V pw; rw [show shn (8 * 2 ^ 0) one = 0x800000#32 by decide]; rfl
theorem pw_succ (k : Nat) : tm 32 (pw k) (pw k) = pw (k + 1) := by
  unfold pw
  rw [CrcPlain.tm_unit, ← CrcPlain.shn_add]
  congr 1
  rw [Nat.pow_succ]; omega
theorem pw_times (a : BitVec 32) (k : Nat) : tm 32 a (pw k) = shn (8 * 2 ^ k) a := CrcPlain.tm_unit a _

set_option maxHeartbeats 1000000 in
theorem join_any (a b : BitVec 32) (n : Nat) (hn : n ≤ 9223372036854775807) (w : World) :
    Calls Tryd.prog 16 #[V a, V b, .int .i64 (n : Int)] w fun e w' => e = .returned (V (CrcPlain.join a b n)) ∧ w = w' := by
  have h0 : (0 : Int) ≤ (n : Int) := by omega
  have hz := pw_zero
  unfold V at hz
  injection hz with _ hz
  have HZ := Lib.hid hz
  clear hz
  go_enter Tryd.func16, Tryd.ntmps16
  go_wp2_with fail
  go_loop [0, 2, 7] (fun ta tn tp => ∃ k : Nat, ta = V (shn (8 * (n % 2 ^ k)) a) ∧ tn = .int .i64 ((n / 2 ^ k : Nat) : Int) ∧ tp = V (pw k)) (fun _ m _ => (intOf m).toNat)
  case atStart => exact ⟨0, by simp [Nat.mod_one, shn], by simp, by unfold V; rw [HZ.out]⟩
  case round =>
    obtain ⟨k, rfl, rfl, rfl⟩ := hrel
    have hq : n / 2 ^ k ≤ 9223372036854775807 := Nat.le_trans (Nat.div_le_self _ _) hn
    have hrl := Lib.hid (rounds_left n k)
    have hrd := Lib.hid (rounds_done n k)
    have hps := Lib.hid (pw_succ k)
    have hpt := Lib.hid (pw_times (shn (8 * (n % 2 ^ k)) a) k)
    have hfin : n / 2 ^ k = 0 → n % 2 ^ k = n := fun h => by
      rcases (Nat.div_eq_zero_iff).1 h with h | h
      · have := Nat.pow_pos (n := k) (show 0 < 2 by omega); omega
      · exact Nat.mod_eq_of_lt h
    generalize hm : n / 2 ^ k = m at *
    generalize hr : shn (8 * (n % 2 ^ k)) a = r at *
    generalize hp : pw k = p at *
    have HM := Lib.hid hm
    have HR := Lib.hid hr
    have HP := Lib.hid hp
    have HF := Lib.hid hfin
    have ha1 := and_one_i64 m
    clear hm hr hp hfin
    by_cases hpos : 0 < m
    · by_cases hodd : m % 2 = 1
      · have hbit : (bits .and .i64 (m : Int) 1 != 0) = true := by rw [ha1, hodd]; rfl
        clear ha1
        have HO := Lib.hid hodd
        clear hodd
        unfold V
        go_wp2_with (go_at_call 18; refine (times_any _ _ _).mono ?_; rintro e w' ⟨rfl, rfl⟩)
        go_round
        case rel =>
          refine ⟨k + 1, ?_, ?_, ?_⟩
          · rw [hpt.out, ← HR.out, ← CrcPlain.shn_add, hrd.out, HO.out]
            rw [show 8 * 2 ^ k + 8 * (n % 2 ^ k) = 8 * (n % 2 ^ k + 2 ^ k * 1) by omega]
            rfl
          · rw [← hrl.out]; simp
          · rw [hps.out]; rfl
        case measure => simp only [intOf]; omega
      · have hbit : (bits .and .i64 (m : Int) 1 != 0) = false := by rw [ha1, show m % 2 = 0 by omega]; rfl
        clear ha1
        have HO := Lib.hid (show m % 2 = 0 by omega)
        clear hodd
        unfold V
        go_wp2_with (go_at_call 18; refine (times_any _ _ _).mono ?_; rintro e w' ⟨rfl, rfl⟩)
        go_round
        case rel =>
          refine ⟨k + 1, ?_, ?_, ?_⟩
          · rw [← HR.out, hrd.out, HO.out, Nat.mul_zero, Nat.add_zero]
          · rw [← hrl.out]; simp
          · rw [hps.out]; rfl
        case measure => simp only [intOf]; omega
    · obtain rfl : m = 0 := by omega
      have hx := Lib.hid (b_xor r b)
      clear ha1
      unfold V
      go_wp2_with fail
      go_ret
      refine ⟨ret_int ?_, rfl⟩
      rw [hx.out, ← HR.out, HF.out trivial]; rfl
theorem join_neg (a b : BitVec 32) (n : Int) (hn : n < 0) (w : World) :
    Calls Tryd.prog 16 #[V a, V b, .int .i64 n] w fun e w' => e = .returned (V 0#32) ∧ w = w' := by
  go_enter Tryd.func16, Tryd.ntmps16
  go_wp2_with fail
  go_ret
  exact ⟨rfl, rfl⟩

end Go.Proofs.YtcodhmfmdjopeaaDoor
