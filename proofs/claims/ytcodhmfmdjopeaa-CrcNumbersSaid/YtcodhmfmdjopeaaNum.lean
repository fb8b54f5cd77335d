/- What the document's Join computes, and the law CrcNumbers: the walks. -/
import Derived.Test.YtcodhmfmdjopeaaRef
import Derived.ProofKit
import Derived.OpenShut
import Derived.ChangeOld
import Derived.Below
import Derived.Deep.DeepHandedRow
import Derived.LaidLaws
namespace Go.Proofs.Ytcodhmfmdjopeaa
open Go.RowKit
open CrcPlain (sh shn tm steps one)

set_option maxHeartbeats 1000000 in
theorem rjoin_any (a b : BitVec 32) (n : Nat) (hn : n ≤ 20000) (w : World) :
    Calls Try.prog 5 #[V a, V b, .int .i64 (n : Int)] w fun e w' => e = .returned (V (CrcPlain.join a b n)) ∧ w = w' := by
  have h0 : (0 : Int) ≤ (n : Int) := by omega
  go_enter Try.func5, Try.ntmps5
  go_wp2_with fail
  go_loop [0, 7] (fun ta ti => ∃ k : Nat, k ≤ 8 * n ∧ ta = V (shn k a) ∧ ti = .int .i64 (k : Int)) (fun _ m => 8 * n - (intOf m).toNat)
  case atStart => exact ⟨0, by omega, rfl, rfl⟩
  case round =>
    obtain ⟨k, hk, rfl, rfl⟩ := hrel
    generalize hr : shn k a = r at *
    have HR := Lib.hid hr
    clear hr
    by_cases hlt : k < 8 * n
    · unfold V
      go_wp2_with (go_at_call 7; refine (rshift_any _ _).mono ?_; rintro e w' ⟨rfl, rfl⟩)
      go_round
      case rel =>
        refine ⟨k + 1, by omega, ?_, by go_num⟩
        rw [← HR.out]; rfl
      case measure => simp only [intOf]; omega
    · have he : k = 8 * n := by omega
      have HE := Lib.hid he
      have hx := Lib.hid (b_xor r b)
      clear he
      unfold V
      go_wp2_with fail
      go_ret
      refine ⟨ret_int ?_, rfl⟩
      rw [hx.out, ← HR.out, HE.out]; rfl
theorem rjoin_neg (a b : BitVec 32) (n : Int) (hn : n < 0) (w : World) :
    Calls Try.prog 5 #[V a, V b, .int .i64 n] w fun e w' => e = .returned (V 0#32) ∧ w = w' := by
  go_enter Try.func5, Try.ntmps5
  go_wp2_with fail
  go_ret
  exact ⟨rfl, rfl⟩

set_option maxHeartbeats 1000000 in
theorem numbers_walk (a b : BitVec 32) (n : Int) (w : World) :
    Calls Try.prog 3 #[V a, V b, .int .i64 n] w fun e w' => e = .returned (.bool true) ∧ Below w.heap.size w w' := by
  by_cases h1 : 20000 < n
  · go_enter Try.func3, Try.ntmps3
    go_wp2_with fail
    go_ret
    exact ⟨rfl, Below.refl _ _⟩
  by_cases h2 : n < 0
  · go_enter Try.func3, Try.ntmps3
    go_wp2_with fail
    refine (join_neg a b n h2 _).mono ?_
    rintro e w' ⟨rfl, rfl⟩
    go_wp2_with fail
    refine (rjoin_neg a b n h2 _).mono ?_
    rintro e w' ⟨rfl, rfl⟩
    unfold V
    go_wp2_with fail
    go_ret
    exact ⟨rfl, Below.refl _ _⟩
  · obtain ⟨m, rfl⟩ := Int.eq_ofNat_of_zero_le (show 0 ≤ n by omega)
    go_enter Try.func3, Try.ntmps3
    go_wp2_with fail
    refine (join_any a b m (by omega) _).mono ?_
    rintro e w' ⟨rfl, rfl⟩
    go_wp2_with fail
    refine (rjoin_any a b m (by omega) _).mono ?_
    rintro e w' ⟨rfl, rfl⟩
    unfold V
    go_wp2_with fail
    go_ret
    exact ⟨rfl, Below.refl _ _⟩
theorem u32_of {a : Int} (w : (Lit.int .u32 a).wf = true) : ∃ x : BitVec 32, a = (x.toNat : Int) := by
  simp [Lit.wf, IntKind.min, IntKind.max, IntKind.signed, IntKind.bits] at w
  refine ⟨BitVec.ofNat 32 a.toNat, ?_⟩
  rw [BitVec.toNat_ofNat, Nat.mod_eq_of_lt (by omega)]
  omega
end Go.Proofs.Ytcodhmfmdjopeaa
