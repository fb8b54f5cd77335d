/- The law CrcJoins: the walk. -/
import Derived.Test.YtcodhmfmdjopeaaDoorW3
namespace Go.Proofs.YtcodhmfmdjopeaaDoor
open Go.RowKit
open CrcPlain (sh shn tm steps one step run)

/-- a piece laid in a row of its own -/
theorem piece_in (w : World) (p : Piece) (hp : p.ok w) : ∃ W : World, Below w.heap.size w W ∧ Ext w W ∧ Pieces W (some ⟨w.heap.size, 0, none⟩) 1 [p] ∧
    W = w.alloc (Obj.cells #[Value.slice p.A p.n p.c] 24) := by
  refine ⟨_, (Below.refl _ _).alloc (Nat.le_refl _) _, Ext.alloc _ _, ?_, rfl⟩
  exact pieces_new w [p] 24 (0, 0) (by intro q hq; obtain rfl := List.mem_singleton.1 hq; exact hp)
theorem pieces_in (w : World) (p q r : Piece) (hp : p.ok w) (hq : q.ok w) (hr : r.ok w) : ∃ W : World, Below w.heap.size w W ∧ Ext w W ∧ Pieces W (some ⟨w.heap.size, 0, none⟩) 3 [p, q, r] ∧
    W = w.alloc (Obj.cells #[Value.slice p.A p.n p.c, Value.slice q.A q.n q.c, Value.slice r.A r.n r.c] 24) := by
  refine ⟨_, (Below.refl _ _).alloc (Nat.le_refl _) _, Ext.alloc _ _, ?_, rfl⟩
  exact pieces_new w [p, q, r] 24 (0, 0) (by intro s hs; simp only [List.mem_cons, List.not_mem_nil, or_false] at hs; rcases hs with rfl | rfl | rfl <;> assumption)
theorem all_one (p : Piece) : all [p] = p.bs := by simp [all]

set_option maxHeartbeats 2000000 in
theorem joins_walk (p q r : Piece) (w : World) (ht : Tab w) (hp : p.ok w) (hq : q.ok w) (hr : r.ok w) (np : p.n ≤ 140737488351232) (nq : q.n ≤ 140737488351232) (nr : r.n ≤ 140737488351232) :
    Calls Tryd.prog 4 #[.slice p.A p.n p.c, .slice q.A q.n q.c, .slice r.A r.n r.c] w fun e w' => e = .returned (.bool true) ∧ Below w.heap.size w w' := by
  have HT := Lib.hid ht
  have HP := Lib.hid hp
  have HQ := Lib.hid hq
  have HR := Lib.hid hr
  have lp := Lib.hid hp.1
  have lq := Lib.hid hq.1
  have lr := Lib.hid hr.1
  clear ht hp hq hr
  obtain ⟨pA, pn, pc, ps⟩ := p
  obtain ⟨qA, qn, qc, qs⟩ := q
  obtain ⟨rA, rn, rc, rs⟩ := r
  dsimp only at np nq nr lp lq lr ⊢
  by_cases hgt : 20000 < pn + qn + rn
  · go_enter Tryd.func4, Tryd.ntmps4
    go_wp2_with fail
    refine (awake_any _ HT.out).mono ?_
    rintro e w1 ⟨rfl, hb⟩
    have HB := Lib.hid hb
    clear hb
    go_wp2_with fail
    go_ret
    exact ⟨rfl, HB.out⟩
  go_enter Tryd.func4, Tryd.ntmps4
  go_wp2_with fail
  refine (awake_any _ HT.out).mono ?_
  rintro e w1 ⟨rfl, hb⟩
  have e0 := Ext.below hb
  obtain ⟨W1, b1, e1, r1, hW1⟩ := piece_in w1 _ (HP.out.ext e0)
  obtain ⟨W2, b2, e2, r2, hW2⟩ := piece_in W1 _ (HQ.out.ext (e0.trans e1))
  obtain ⟨W3, b3, e3, r3, hW3⟩ := piece_in W2 _ (HR.out.ext (e0.trans (e1.trans e2)))
  have ex3 := e0.trans (e1.trans (e2.trans e3))
  obtain ⟨W4, b4, e4, r4, hW4⟩ := pieces_in W3 _ _ _ (HP.out.ext ex3) (HQ.out.ext ex3) (HR.out.ext ex3)
  have T1 := Lib.hid (HT.out.ext (e0.trans e1))
  have T2 := Lib.hid (HT.out.ext (e0.trans (e1.trans e2)))
  have T3 := Lib.hid (HT.out.ext ex3)
  have T4 := Lib.hid (HT.out.ext (ex3.trans e4))
  have c1 := hb.trans (b1.mono hb.size)
  have c2 := c1.trans (b2.mono c1.size)
  have c3 := c2.trans (b3.mono c2.size)
  have HB := Lib.hid (c3.trans (b4.mono c3.size))
  have R1 := Lib.hid r1
  have R2 := Lib.hid r2
  have R3 := Lib.hid r3
  have R4 := Lib.hid r4
  have HW1 := Lib.hid hW1
  have HW2 := Lib.hid hW2
  have HW3 := Lib.hid hW3
  have HW4 := Lib.hid hW4
  clear hb e0 b1 e1 r1 hW1 b2 e2 r2 hW2 b3 e3 r3 hW3 ex3 b4 e4 r4 hW4 c1 c2 c3
  go_wp2_with fail
  rw [← HW1.out]
  refine (sum_to _ 1 1 _ _ T1.out R1.out (by omega) (by simp; omega)).mono ?_
  rintro e w' ⟨rfl, rfl⟩
  rw [all_one]
  go_wp2_with fail
  rw [← HW2.out]
  refine (sum_to _ 1 1 _ _ T2.out R2.out (by omega) (by simp; omega)).mono ?_
  rintro e w' ⟨rfl, rfl⟩
  rw [all_one]
  go_wp2_with fail
  rw [← HW3.out]
  refine (sum_to _ 1 1 _ _ T3.out R3.out (by omega) (by simp; omega)).mono ?_
  rintro e w' ⟨rfl, rfl⟩
  rw [all_one]
  dsimp only
  generalize hx : CrcPlain.sum ps = x
  generalize hy : CrcPlain.sum qs = y
  generalize hz : CrcPlain.sum rs = z
  have HX := Lib.hid hx
  have HY := Lib.hid hy
  have HZ := Lib.hid hz
  clear hx hy hz
  go_wp2_with fail
  refine (join_to _ _ _ x y qn (by omega) _ rfl rfl rfl).mono ?_
  rintro e w' ⟨rfl, rfl⟩
  go_wp2_with fail
  refine (join_to _ _ _ _ z rn (by omega) _ rfl rfl rfl).mono ?_
  rintro e w' ⟨rfl, rfl⟩
  have hl : CrcPlain.join (CrcPlain.join x y qn) z rn = CrcPlain.sum (all [⟨pA, pn, pc, ps⟩, ⟨qA, qn, qc, qs⟩, ⟨rA, rn, rc, rs⟩]) := by
    have : all [⟨pA, pn, pc, ps⟩, ⟨qA, qn, qc, qs⟩, ⟨rA, rn, rc, rs⟩] = ps ++ qs ++ rs := by simp [all]
    rw [this, CrcPlain.sum_append, CrcPlain.sum_append, HX.out, HY.out, HZ.out, lq.out, lr.out]
  have ha := CrcPlain.join_assoc x y z qn rn
  rw [hl] at ha ⊢
  have HA := Lib.hid ha
  clear ha hl
  go_wp2_with fail
  refine (join_to _ _ _ y z rn (by omega) _ rfl rfl rfl).mono ?_
  rintro e w' ⟨rfl, rfl⟩
  go_wp2_with fail
  refine (join_to _ _ _ x _ (qn + rn) (by omega) _ rfl rfl (by omega)).mono ?_
  rintro e w' ⟨rfl, rfl⟩
  rw [← HA.out]
  go_wp2_with fail
  rw [← HW4.out]
  refine (sum_to _ 3 3 _ _ T4.out R4.out (by omega) (by simp; omega)).mono ?_
  rintro e w' ⟨rfl, rfl⟩
  go_wp2_with fail
  refine (sum_at none 0 0 [] _ 0 T4.out ⟨rfl, by simp, by omega⟩ (by omega) (by simp) (by decide +kernel)).mono ?_
  rintro e w' ⟨rfl, rfl⟩
  go_wp2_with fail
  refine (join_to _ _ _ 0#32 x pn (by omega) _ rfl rfl rfl).mono ?_
  rintro e w' ⟨rfl, rfl⟩
  rw [CrcPlain.join_zero]
  go_wp2_with fail
  go_ret
  exact ⟨rfl, HB.out⟩

end Go.Proofs.YtcodhmfmdjopeaaDoor
