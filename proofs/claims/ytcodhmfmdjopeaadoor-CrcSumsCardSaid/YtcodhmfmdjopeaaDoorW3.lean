/- The laws CrcBytes, CrcFar, CrcJoins: the walks. -/
import Derived.Test.YtcodhmfmdjopeaaDoorW2
namespace Go.Proofs.YtcodhmfmdjopeaaDoor
open Go.RowKit
open CrcPlain (sh shn tm steps one step run)

theorem join_to (x y z : Int) (a b : BitVec 32) (n : Nat) (hn : n ≤ 9223372036854775807) (w : World) (hx : (a.toNat : Int) = x) (hy : (b.toNat : Int) = y) (hz : (n : Int) = z) :
    Calls Tryd.prog 16 #[.int .u32 x, .int .u32 y, .int .i64 z] w fun e w' => e = .returned (.int .u32 ((CrcPlain.join a b n).toNat : Int)) ∧ w = w' :=
  join_at x y z _ a b n hn w hx hy hz rfl
theorem sum_to (A : Option Addr) (n c : Nat) (ps : List Piece) (w : World) (ht : Tab w) (hp : Pieces w A n ps) (hn : n ≤ 9223372036854775807) (hb : ∀ p ∈ ps, p.n ≤ 9223372036854775807) :
    Calls Tryd.prog 11 #[.slice A n c] w fun e w' => e = .returned (.int .u32 ((CrcPlain.sum (all ps)).toNat : Int)) ∧ w = w' :=
  sum_at A n c ps w _ ht hp hn hb rfl
theorem beq_refl_int (a : Int) : (a == a) = true := by simp

set_option maxHeartbeats 1000000 in
theorem far_neg (a b : BitVec 32) (n m : Int) (h1 : n < 0 ∨ m < 0) (w : World) (ht : Tab w) :
    Calls Tryd.prog 5 #[V a, V b, .int .i64 n, .int .i64 m] w fun e w' => e = .returned (.bool true) ∧ Below w.heap.size w w' := by
  have HT := Lib.hid ht
  clear ht
  by_cases h2 : n < 0
  · clear h1
    unfold V
    go_enter Tryd.func5, Tryd.ntmps5
    go_wp2_with fail
    refine (awake_any _ HT.out).mono ?_
    rintro e w1 ⟨rfl, hb⟩
    have HB := Lib.hid hb
    clear hb
    go_wp2_with fail
    all_goals
      refine (join_at_neg _ _ _ a b (by omega) _ rfl rfl).mono ?_
      rintro e w2 ⟨rfl, rfl⟩
      go_wp2_with fail
      go_ret
      exact ⟨rfl, HB.out⟩
  · have h3 : m < 0 := by omega
    clear h1
    unfold V
    go_enter Tryd.func5, Tryd.ntmps5
    go_wp2_with fail
    refine (awake_any _ HT.out).mono ?_
    rintro e w1 ⟨rfl, hb⟩
    have HB := Lib.hid hb
    clear hb
    go_wp2_with fail
    all_goals
      refine (join_at_neg _ _ _ a b (by omega) _ rfl rfl).mono ?_
      rintro e w2 ⟨rfl, rfl⟩
      go_wp2_with fail
      go_ret
      exact ⟨rfl, HB.out⟩

set_option maxHeartbeats 1000000 in
theorem far_pos (a b : BitVec 32) (n m : Nat) (w : World) (ht : Tab w) :
    Calls Tryd.prog 5 #[V a, V b, .int .i64 (n : Int), .int .i64 (m : Int)] w fun e w' => e = .returned (.bool true) ∧ Below w.heap.size w w' := by
  have HT := Lib.hid ht
  clear ht
  by_cases h1 : 2305843009213693952 < n
  · unfold V
    go_enter Tryd.func5, Tryd.ntmps5
    go_wp2_with fail
    refine (awake_any _ HT.out).mono ?_
    rintro e w1 ⟨rfl, hb⟩
    have HB := Lib.hid hb
    clear hb
    go_wp2_with fail
    go_ret
    exact ⟨rfl, HB.out⟩
  by_cases h2 : 2305843009213693952 < m
  · unfold V
    go_enter Tryd.func5, Tryd.ntmps5
    go_wp2_with fail
    refine (awake_any _ HT.out).mono ?_
    rintro e w1 ⟨rfl, hb⟩
    have HB := Lib.hid hb
    clear hb
    go_wp2_with fail
    go_ret
    exact ⟨rfl, HB.out⟩
  have HJ := Lib.hid (CrcPlain.join_join a b n m)
  have HZ := Lib.hid (CrcPlain.join_zero b n)
  unfold V
  go_enter Tryd.func5, Tryd.ntmps5
  go_wp2_with fail
  refine (awake_any _ HT.out).mono ?_
  rintro e w1 ⟨rfl, hb⟩
  have HB := Lib.hid hb
  clear hb
  go_wp2_with fail
  refine (join_to _ _ _ a b (n + m) (by omega) _ rfl rfl (by omega)).mono ?_
  rintro e w2 ⟨rfl, rfl⟩
  go_wp2_with fail
  refine (join_to _ _ _ a 0#32 n (by omega) _ rfl rfl rfl).mono ?_
  rintro e w2 ⟨rfl, rfl⟩
  go_wp2_with fail
  refine (join_to _ _ _ _ b m (by omega) _ rfl rfl rfl).mono ?_
  rintro e w2 ⟨rfl, rfl⟩
  rw [HJ.out]
  go_wp2_with fail
  refine (join_to _ _ _ 0#32 b n (by omega) _ rfl rfl rfl).mono ?_
  rintro e w2 ⟨rfl, rfl⟩
  rw [HZ.out]
  go_wp2_with fail
  go_ret
  exact ⟨rfl, HB.out⟩

theorem far_walk (a b : BitVec 32) (n m : Int) (hn : -9223372036854775808 ≤ n ∧ n ≤ 9223372036854775807) (hm : -9223372036854775808 ≤ m ∧ m ≤ 9223372036854775807) (w : World) (ht : Tab w) :
    Calls Tryd.prog 5 #[V a, V b, .int .i64 n, .int .i64 m] w fun e w' => e = .returned (.bool true) ∧ Below w.heap.size w w' := by
  by_cases h : n < 0 ∨ m < 0
  · exact far_neg a b n m h w ht
  · obtain ⟨x, rfl⟩ := Int.eq_ofNat_of_zero_le (show 0 ≤ n by omega)
    obtain ⟨y, rfl⟩ := Int.eq_ofNat_of_zero_le (show 0 ≤ m by omega)
    exact far_pos a b x y w ht

theorem piece_one (w : World) (x : Nat) (hx : x < 256) : ∃ W : World, Below w.heap.size w W ∧ Ext w W ∧ Pieces W (some ⟨w.heap.size + 1, 0, none⟩) 1 [⟨some ⟨w.heap.size, 0, none⟩, 1, 1, [x]⟩] ∧
    W = (w.alloc (Obj.cells #[Value.int IntKind.u8 (x : Int)] 5)).alloc (Obj.cells #[Value.slice (some { block := w.heap.size, off := 0 }) 1 1] 24) := by
  refine ⟨_, ((Below.refl _ _).alloc (Nat.le_refl _) _).alloc (by simp) _, (Ext.alloc _ _).trans (Ext.alloc _ _), ?_, rfl⟩
  have q : (⟨some ⟨w.heap.size, 0, none⟩, 1, 1, [x]⟩ : Piece).ok (w.alloc (Obj.cells #[Value.int IntKind.u8 (x : Int)] 5)) := bytes_new w [x] 5 (0, 0) (by simpa using hx)
  have r := pieces_new (w.alloc (Obj.cells #[Value.int IntKind.u8 (x : Int)] 5)) [⟨some ⟨w.heap.size, 0, none⟩, 1, 1, [x]⟩] 24 (0, 0) (by intro p hp; obtain rfl := List.mem_singleton.1 hp; exact q)
  simpa [Piece.val] using r
theorem one_byte (x y : Nat) (hx : x < 256) (hy : y < 256) : ((((CrcPlain.sum [x]).toNat : Int) == ((CrcPlain.sum [y]).toNat : Int)) == ((x : Int) == (y : Int))) = true := by
  by_cases h : x = y
  · subst h; simp
  · have h1 : ((x : Int) == (y : Int)) = false := by rw [beq_eq_false_iff_ne]; omega
    have h2 : CrcPlain.sum [x] ≠ CrcPlain.sum [y] := by
      intro e
      unfold CrcPlain.sum CrcPlain.run at e
      simp only [List.foldl_cons, List.foldl_nil] at e
      have e1 := congrArg (~~~ ·) e
      simp only [BitVec.not_not] at e1
      have e2 := CrcPlain.shn_inj 8 _ _ e1
      have e3 := congrArg (~~~ 0#32 ^^^ ·) e2
      simp only [← BitVec.xor_assoc, BitVec.xor_self, BitVec.zero_xor] at e3
      have e4 := congrArg BitVec.toNat e3
      simp only [BitVec.toNat_ofNat] at e4
      omega
    have h3 : (((CrcPlain.sum [x]).toNat : Int) == ((CrcPlain.sum [y]).toNat : Int)) = false := by
      rw [beq_eq_false_iff_ne]
      intro e
      exact h2 (BitVec.eq_of_toNat_eq (by omega))
    rw [h1, h3]; rfl

set_option maxHeartbeats 1000000 in
theorem bytes_walk (x y : Nat) (hx : x < 256) (hy : y < 256) (w : World) (ht : Tab w) :
    Calls Tryd.prog 9 #[.int .u8 (x : Int), .int .u8 (y : Int)] w fun e w' => e = .returned (.bool true) ∧ Below w.heap.size w w' := by
  have HT := Lib.hid ht
  have HO := Lib.hid (one_byte x y hx hy)
  clear ht
  go_enter Tryd.func9, Tryd.ntmps9
  go_wp2_with fail
  refine (awake_any _ HT.out).mono ?_
  rintro e w1 ⟨rfl, hb⟩
  obtain ⟨W1, b1, e1, r1, hW1⟩ := piece_one w1 x hx
  obtain ⟨W2, b2, e2, r2, hW2⟩ := piece_one W1 y hy
  have t1 := HT.out.ext ((Ext.below hb).trans e1)
  have t2 := t1.ext e2
  have HB := Lib.hid (hb.trans ((b1.trans (b2.mono b1.size)).mono hb.size))
  have T1 := Lib.hid t1
  have T2 := Lib.hid t2
  have R1 := Lib.hid r1
  have R2 := Lib.hid r2
  have HW1 := Lib.hid hW1
  have HW2 := Lib.hid hW2
  clear hb b1 b2 e1 e2 t1 t2 r1 r2 hW1 hW2
  go_wp2_with fail
  rw [← HW1.out]
  refine (sum_to _ 1 1 _ _ T1.out R1.out (by omega) (by simp)).mono ?_
  rintro e w' ⟨rfl, rfl⟩
  go_wp2_with fail
  rw [← HW2.out]
  refine (sum_to _ 1 1 _ _ T2.out R2.out (by omega) (by simp)).mono ?_
  rintro e w' ⟨rfl, rfl⟩
  have ho := HO.out
  rw [show all [⟨some ⟨W1.heap.size, 0, none⟩, 1, 1, [y]⟩] = [y] from rfl]
  rw [show all [⟨some ⟨w1.heap.size, 0, none⟩, 1, 1, [x]⟩] = [x] from rfl]
  go_wp2_with fail
  go_ret
  exact ⟨rfl, HB.out⟩

end Go.Proofs.YtcodhmfmdjopeaaDoor
