/- What the document's shift computes: the walk. -/
import Derived.Test.YtcodhmfmdjopeaaDoorW1
namespace Go.Proofs.YtcodhmfmdjopeaaDoor
open Go.RowKit
open CrcPlain (sh shn tm steps one)

theorem b_mod2 (v : BitVec 32) : ((v.toNat : Int) % 2 == 1) = v.getLsbD 0 := by
  rw [BitVec.getLsbD, Nat.testBit_zero]
  rcases Nat.mod_two_eq_zero_or_one v.toNat with h | h
  · have : (v.toNat : Int) % 2 = 0 := by omega
    rw [this, h]; rfl
  · have : (v.toNat : Int) % 2 = 1 := by omega
    rw [this, h]; rfl

set_option maxHeartbeats 400000 in
theorem rshift_any (v : BitVec 32) (w : World) :
    Calls Tryd.prog 17 #[V v] w fun e w' => e = .returned (V (sh v)) ∧ w = w' := by
  have h1 := b_mod2 v
  have h3 := b_xor (v >>> 1) 0xEDB88320#32
  rw [show ((0xEDB88320#32).toNat : Int) = 3988292384 from rfl, ← b_shr1] at h3
  have H3 := Lib.hid h3
  clear h3
  cases hb : v.getLsbD 0
  · rw [hb] at h1
    unfold V
    go_enter Tryd.func17, Tryd.ntmps17
    go_wp2
    go_ret
    refine ⟨ret_int ?_, rfl⟩
    unfold sh
    rw [hb, b_shr1]
    simp
  · rw [hb] at h1
    unfold V
    go_enter Tryd.func17, Tryd.ntmps17
    go_wp2
    go_ret
    refine ⟨ret_int ?_, rfl⟩
    unfold sh
    rw [hb, H3.out]
    rfl
end Go.Proofs.YtcodhmfmdjopeaaDoor
