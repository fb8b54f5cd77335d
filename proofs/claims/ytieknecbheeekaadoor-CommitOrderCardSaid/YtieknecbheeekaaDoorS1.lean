/- crc.Sum of pieces of blocks: some number. -/
import Derived.Test.YtieknecbheeekaaDoorBase
set_option linter.unusedVariables false
set_option linter.unusedSimpArgs false
namespace Go.Proofs.YtieknecbheeekaaDoor
open Go.RowKit Go.Maps

theorem bits_u32 (op : BinOp) (x y : Int) : ∃ s : Nat, s < 4294967296 ∧ bits op .u32 x y = (s : Int) := by
  unfold bits
  simp only
  generalize (match op with
    | .and => BitVec.ofInt IntKind.u32.bits x &&& BitVec.ofInt IntKind.u32.bits y
    | .or => BitVec.ofInt IntKind.u32.bits x ||| BitVec.ofInt IntKind.u32.bits y
    | .xor => BitVec.ofInt IntKind.u32.bits x ^^^ BitVec.ofInt IntKind.u32.bits y
    | _ => BitVec.ofInt IntKind.u32.bits x &&& ~~~BitVec.ofInt IntKind.u32.bits y).toNat = m
  rw [IntKind.wrap_u32]
  exact ⟨m % 4294967296, Nat.mod_lt _ (by omega), by simp⟩
theorem and15 (x : Int) : ∃ k : Nat, k < 16 ∧ bits .and .u32 x 15 = (k : Int) := by
  unfold bits
  simp only
  have h : (BitVec.ofInt IntKind.u32.bits x &&& BitVec.ofInt IntKind.u32.bits 15).toNat < 16 := by
    rw [BitVec.toNat_and]
    have := Nat.and_le_right (n := (BitVec.ofInt IntKind.u32.bits x).toNat) (m := (BitVec.ofInt IntKind.u32.bits 15).toNat)
    have e : (BitVec.ofInt IntKind.u32.bits 15).toNat = 15 := by decide
    omega
  generalize (BitVec.ofInt IntKind.u32.bits x &&& BitVec.ofInt IntKind.u32.bits 15).toNat = m at *
  rw [IntKind.wrap_u32]
  exact ⟨m, h, by omega⟩
/-- the table lies where it should: sixteen numbers -/
def Tab (w : World) : Prop := ∀ i, i < 16 → ∃ s : Int, w.cell? ⟨0, i, none⟩ = some (.int .u32 s)
theorem Tab.lt {w : World} (h : Tab w) : 0 < w.heap.size := by
  obtain ⟨s, h0⟩ := h 0 (by omega)
  exact World.block_lt_of_cell? _ _ h0
theorem Tab.grow {w w' : World} (h : Tab w) (hg : Grow w w') : Tab w' := fun i hi => by
  obtain ⟨s, h0⟩ := h i hi
  exact ⟨s, (hg.cell (p := ⟨0, i, none⟩) h.lt).trans h0⟩
/-- pieces of blocks -/
structure PSee (w : World) (v : Value) (gb : Nat) (os : List Nat) : Prop where
  see : See w 1 v (os.map fun o => [.slice (some ⟨gb, o, none⟩) 256 256])
  at_ : ∀ o ∈ os, ∃ x : Blk, x.length = 256 ∧ w.rangeAt gb o (bc x)
set_option maxRecDepth 100000 in
set_option maxHeartbeats 4000000 in
theorem sum_some {w : World} {v : Value} {gb : Nat} {os : List Nat} (ht : Tab w) (hp : PSee w v gb os) (hl : os.length ≤ 100000) : Calls Tryd.prog 50 #[v] w fun e w' => ∃ s : Nat, s < 4294967296 ∧ e = .returned (.int .u32 (s : Int)) ∧ w = w' := by
  obtain ⟨a, cap, rfl, hat⟩ := hp.see
  have HAT := Lib.hid hat
  have HP := Lib.hid hp.at_
  have HT := Lib.hid ht
  obtain ⟨n, hn⟩ : ∃ n, n = os.length := ⟨_, rfl⟩
  rw [List.length_map, ← hn]
  have HN := Lib.hid hn
  rw [← hn] at hl
  clear hp hat ht hn
  go_enter Tryd.func50, Tryd.ntmps50
  go_wp2_with fail
  go_loop [3, 10] (fun tv ti => ∃ k s : Nat, k ≤ n ∧ ti = .int .i64 (k : Int) ∧ s < 4294967296 ∧ tv = .int .u32 (s : Int)) (fun _ i => n - (intOf i).toNat)
  case atStart => exact ⟨0, 4294967295, by omega, rfl, by omega, rfl⟩
  case round =>
    obtain ⟨k, s, hk, rfl, hs, rfl⟩ := hrel
    by_cases hlt : k < n
    · obtain ⟨o, ho⟩ : ∃ o, os[k]? = some o := ⟨os[k]'(by rw [← HN.out]; exact hlt), by simp⟩
      obtain ⟨g, q, rfl, _, hr⟩ := HAT.out k [.slice (some ⟨gb, o, none⟩) 256 256] (by rw [List.getElem?_map, ho]; rfl)
      have hc : w.cell? ⟨g, q + k, none⟩ = some (.slice (some ⟨gb, o, none⟩) 256 256) := by have := hr 0 _ rfl; rwa [Nat.mul_one, Nat.add_zero] at this
      obtain ⟨x, hx, hxr⟩ := HP.out o (List.mem_of_getElem? ho)
      have HX := Lib.hid hx
      have HXR := Lib.hid hxr
      have b0 : (0 : Int) ≤ (k : Int) := by omega
      have b1 : (k : Int) < (n : Int) := by omega
      clear hr ho hx hxr
      go_wp2_with fail
      go_loop [3, 16] (fun tv ti => ∃ j s : Nat, j ≤ 256 ∧ ti = .int .i64 (j : Int) ∧ s < 4294967296 ∧ tv = .int .u32 (s : Int)) (fun _ i => 256 - (intOf i).toNat)
      case atStart => exact ⟨0, s, by omega, rfl, hs, rfl⟩
      case round =>
        obtain ⟨j, s, hj, rfl, hs, rfl⟩ := hrel
        by_cases hjl : j < 256
        · have hb : w.cell? ⟨gb, o + j, none⟩ = some (.int .u8 ((x[j]'(by rw [HX.out]; exact hjl) : Nat) : Int)) := HXR.out j _ (by unfold bc; rw [List.getElem?_map, List.getElem?_eq_getElem (by rw [HX.out]; exact hjl)]; rfl)
          generalize x[j]'(by rw [HX.out]; exact hjl) = bt at *
          obtain ⟨s1, hs1, e1⟩ := bits_u32 .xor (s : Int) ((bt : Int) % 4294967296)
          obtain ⟨k1, hk1, e2⟩ := and15 (s1 : Int)
          obtain ⟨t1, c1⟩ := HT.out k1 hk1
          obtain ⟨s2, hs2, e3⟩ := bits_u32 .xor ((s1 : Int) / 16) t1
          obtain ⟨k2, hk2, e4⟩ := and15 (s2 : Int)
          obtain ⟨t2, c2⟩ := HT.out k2 hk2
          obtain ⟨s3, hs3, e5⟩ := bits_u32 .xor ((s2 : Int) / 16) t2
          have b2 : (0 : Int) ≤ (j : Int) := by omega
          have b3 : (j : Int) < 256 := by omega
          have b4 : (0 : Int) ≤ (k1 : Int) := by omega
          have b5 : (k1 : Int) < 16 := by omega
          have b6 : (0 : Int) ≤ (k2 : Int) := by omega
          have b7 : (k2 : Int) < 16 := by omega
          go_wp2_with fail
          go_round
          case rel => exact ⟨j + 1, s3, by omega, by go_num, hs3, rfl⟩
          case measure => simp [intOf]; omega
        · obtain rfl : j = 256 := by omega
          go_wp2_with fail
          go_round
          case rel => exact ⟨k + 1, s, by omega, by go_num, hs, rfl⟩
          case measure => simp [intOf]; omega
    · obtain rfl : k = n := by omega
      go_wp2_with fail
      go_ret
      obtain ⟨s', hs', e'⟩ := bits_u32 .xor IntKind.u32.max (s : Int)
      exact ⟨s', hs', congrArg (fun z => Ending.returned (.int .u32 z)) e', rfl⟩
#print axioms sum_some
end Go.Proofs.YtieknecbheeekaaDoor
