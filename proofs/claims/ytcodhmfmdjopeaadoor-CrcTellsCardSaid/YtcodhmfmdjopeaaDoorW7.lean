/- The law CrcTells: the walk. -/
import Derived.Test.YtcodhmfmdjopeaaDoorW6
import Derived.Test.YtcodhmfmdjopeaaDoorPlain3
set_option linter.unusedVariables false
set_option linter.unusedSimpArgs false
namespace Go.Proofs.YtcodhmfmdjopeaaDoor
open Go.RowKit
open CrcPlain (sh shn tm steps one step run turned turn)

theorem bit_of (o : BitVec 32) (k : Nat) : (((o.toNat : Int) / 2 ^ k).tmod 2 == 1) = o.getLsbD k := by
  have e : ((o.toNat : Int) / 2 ^ k) = ((o.toNat / 2 ^ k : Nat) : Int) := by simp
  rw [e, BitVec.getLsbD, Nat.testBit_eq_decide_div_mod_eq]
  have h : (((o.toNat / 2 ^ k : Nat) : Int)).tmod 2 = ((o.toNat / 2 ^ k % 2 : Nat) : Int) := by
    rw [Int.tmod_eq_emod_of_nonneg (Int.natCast_nonneg _)]; simp
  rw [h]
  rcases Nat.mod_two_eq_zero_or_one (o.toNat / 2 ^ k) with h | h <;> rw [h] <;> rfl

set_option maxRecDepth 100000 in
set_option maxHeartbeats 2000000 in
theorem tells_walk (ap : Addr) (n c : Nat) (bs : List Nat) (a : Nat) (o : BitVec 32) (w : World) (ht : Tab w) (hp : Bytes w (some ap) n bs) (hn : n ≤ c) (hc : c ≤ 140737488351232) (ha : a + 32 ≤ 8 * n) (hle : n ≤ 20000) :
    Calls Tryd.prog 6 #[.slice (some ap) n c, .int .i64 (a : Int), V o] w fun e w' => e = .returned (.bool true) ∧ Below w.heap.size w w' := by
  have d1 : decide ((20000 : Int) < (n : Int)) = false := by simp; omega
  have d2 : decide ((a : Int) < 0) = false := by simp
  have d3 : decide (8 * (n : Int) - 32 < (a : Int)) = false := by simp; omega
  have HT := Lib.hid ht
  have HP := Lib.hid hp
  clear ht hp
  obtain ⟨i0, hi, hz0, hz1, hz2⟩ := info_parts info8
  have HI := Lib.hid hi
  have HZ0 := Lib.hid hz0
  have HZ1 := Lib.hid hz1
  have HZ2 := Lib.hid hz2
  clear hi hz0 hz1 hz2
  unfold V
  go_enter Tryd.func6, Tryd.ntmps6
  go_wp2_with fail
  refine (awake_any _ HT.out).mono ?_
  rintro e w1 ⟨rfl, hb⟩
  have HB := Lib.hid hb
  have HP1 := Lib.hid (HP.out.ext (Ext.below hb))
  clear hb
  go_wp2_with (at_builtin; refine wpList_append_own _ rfl _ _ 24 rfl w1.heap.size 5 i0 (.int .u8 0) 1 1 Tryd.underlying24 HI.out HZ0.out HZ1.out HZ2.out rfl (by decide) _ _ _ rfl (World.ownsRow_nil _ _ _ _) ap n c (bs.map fun x => Value.int .u8 ((x : Nat) : Int)) rfl ?c0 ?c1 ?c2 ?c3 ?c4 ?c5 ?_)
  case c0 => simp [HP.out.1]
  case c1 =>
    intro j u hu
    obtain ⟨ad, had, hcell⟩ := HP1.out.2.2 (by omega)
    obtain rfl := Option.some.inj had
    rw [List.getElem?_map] at hu
    have hj : j < n := by
      rcases Nat.lt_or_ge j bs.length with h | h
      · rw [HP.out.1] at h; exact h
      · simp [List.getElem?_eq_none h] at hu
    rw [hcell j hj, ← hu, List.getD_eq_getElem?_getD]
    have : j < bs.length := by rw [HP.out.1]; exact hj
    simp [this]
  case c2 => intro u hu; obtain ⟨x, _, rfl⟩ := List.mem_map.1 hu; rfl
  case c3 => unfold maxLen; omega
  case c4 => omega
  case c5 => exact Nat.le_refl _
  intro v7 w2 hown hgrow _
  replace hown : w2.ownsRow w1.heap.size 5 1 v7 n (bs.map fun x => Value.int .u8 ((x : Nat) : Int)) := by simpa using hown
  obtain ⟨g, cap, hv7⟩ : ∃ g cap, v7 = .slice (some ⟨g, 0, none⟩) n cap := by
    rcases hown.2 with ⟨_, h0⟩ | ⟨g, cap, cur, hv, _⟩
    · omega
    · exact ⟨g, cap, hv⟩
  rw [hv7] at hown ⊢
  have HO := Lib.hid hown
  have HB2 := Lib.hid ((Below.refl w1.heap.size w1).grown hgrow (Nat.le_refl _) (by simp [Value.ownBlock]))
  clear hown hgrow hv7
  go_wp2_with fail
  go_loopw [8] (fun i wr => ∃ k : Nat, k ≤ 32 ∧ i = .int .i64 (k : Int) ∧ wr.ownsRow w1.heap.size 5 1 (.slice (some ⟨g, 0, none⟩) n cap) n ((turned bs a o k).map fun x => Value.int .u8 ((x : Nat) : Int)) ∧ Below w1.heap.size w1 wr) (fun i _ => 32 - (intOf i).toNat)
  case atStart => exact ⟨0, by omega, rfl, HO.out, HB2.out⟩
  case round =>
    obtain ⟨k, hk, rfl, hown, hbw⟩ := hrel
    have HO := Lib.hid hown
    have HBW := Lib.hid hbw
    clear hown hbw
    by_cases hlt : k < 32
    · have hbit := bit_of o k
      cases hb : o.getLsbD k
      · rw [hb] at hbit
        have HT1 := Lib.hid (show turned bs a o (k + 1) = turned bs a o k by simp [turned, hb])
        clear hb
        go_wp2_with fail
        go_roundw
        case rel =>
          refine ⟨k + 1, by omega, by go_num, ?_, HBW.out⟩
          rw [HT1.out]; exact HO.out
        case measure => simp only [intOf]; omega
      · rw [hb] at hbit
        have HT1 := Lib.hid (show turned bs a o (k + 1) = turn (turned bs a o k) (a + k) by simp [turned, hb])
        clear hb
        have hsm := CrcPlain.turned_small bs HP.out.2.1 a o k
        have hln : (turned bs a o k).length = n := by rw [CrcPlain.turned_length]; exact HP.out.1
        generalize turned bs a o k = ml at *
        obtain ⟨p, hp⟩ : ∃ p, p = a + k := ⟨_, rfl⟩
        obtain ⟨i, hi⟩ : ∃ i, i = p / 8 := ⟨_, rfl⟩
        obtain ⟨b, hb⟩ : ∃ b, b = p % 8 := ⟨_, rfl⟩
        have HIX := Lib.hid (show turn ml (a + k) = ml.set i (ml.getD i 0 ^^^ 2 ^ b) by unfold turn; rw [← hp, ← hi, ← hb])
        have hin : i < n := by omega
        have hb8 : b < 8 := by omega
        have e1 : (a : Int) + (k : Int) = (p : Int) := by omega
        have e2 : IntKind.i64.wrap (p : Int) = (p : Int) := by rw [IntKind.wrap_i64]; omega
        have e3 : (p : Int).tdiv 8 = (i : Int) := by rw [Int.tdiv_eq_ediv_of_nonneg (by omega)]; omega
        have e4 : IntKind.i64.wrap (i : Int) = (i : Int) := by rw [IntKind.wrap_i64]; omega
        have e5 : (p : Int).tmod 8 = (b : Int) := by rw [Int.tmod_eq_emod_of_nonneg (by omega)]; omega
        have e6 : IntKind.i64.wrap (b : Int) = (b : Int) := by rw [IntKind.wrap_i64]; omega
        have hx : ml.getD i 0 < 256 := CrcPlain.getD_small ml hsm i
        have hcell : wr.cell? ⟨g, i, none⟩ = some (.int .u8 ((ml.getD i 0 : Nat) : Int)) := by
          rw [HO.out.cellAt i (by omega), List.getElem?_map, List.getD_eq_getElem?_getD]
          have : i < ml.length := by omega
          simp [this]
        have HCELL := Lib.hid hcell
        have hpw : 2 ^ b < 2 ^ 8 := Nat.pow_lt_pow_right (by omega) hb8
        obtain ⟨y, hy⟩ : ∃ y, y = 2 ^ b := ⟨_, rfl⟩
        have e8 : IntKind.u8.wrap ((2 : Int) ^ b) = (y : Int) := by
          rw [IntKind.wrap_u8', hy, show ((2 : Int) ^ b) = ((2 ^ b : Nat) : Int) by simp]
          omega
        rw [← hy] at HIX hpw
        obtain ⟨z, hz⟩ : ∃ z, z = ml.getD i 0 ^^^ y := ⟨_, rfl⟩
        have e7 : bits .xor .u8 ((ml.getD i 0 : Nat) : Int) (y : Int) = (z : Int) := by rw [hz]; exact u8_xor_nat (ml.getD i 0) y hx (by omega)
        rw [← hz] at HIX
        clear hp hi hb hy hz hpw hcell hsm
        generalize ml.getD i 0 = x at *
        go_wp2_with fail
        refine wp_region_facts_tail 18 (by kernel_rfl) (by kernel_rfl) [[], [], [], [(1, some 39), (2, some 40)], [(3, some 41)], [], [], [], [(6, some 44), (7, some 45)], [(8, some 46)], [(5, some 43), (9, some 47)], [(10, some 48)], [], [], [(12, some 50), (13, some 51)], [(14, some 52)], [(15, some 53)], [(11, some 49), (16, some 54)]] [(0, some 38), (1, some 39), (2, some 40), (3, some 41), (4, some 42), (5, some 43), (6, some 44), (7, some 45), (8, some 46), (9, some 47), (10, some 48), (11, some 49), (12, some 50), (13, some 51), (14, some 52), (15, some 53), (16, some 54), (17, some 55)] (by kernel_rfl) (by kernel_rfl) (by kernel_rfl) (Grow) Grow.refl Grow.trans [Is (Value.slice (some ⟨g, 0, none⟩) n cap), Is (Value.int .i64 (a : Int)), Is (Value.int .i64 (k : Int)), Is (Value.int .i64 (p : Int)), Is (Value.int .i64 (i : Int)), Is (Value.slice (some ⟨g, 0, none⟩) n cap), Is (Value.int .i64 (a : Int)), Is (Value.int .i64 (k : Int)), Is (Value.int .i64 (p : Int)), Is (Value.int .i64 (i : Int)), Is (Value.pointer (some ⟨g, i, none⟩)), Is (Value.int .u8 (x : Int)), Is (Value.int .i64 (a : Int)), Is (Value.int .i64 (k : Int)), Is (Value.int .i64 (p : Int)), Is (Value.int .i64 (b : Int)), Is (Value.int .u8 (y : Int)), Is (Value.int .u8 (z : Int))] rfl ⟨is_stab _ _, is_stab _ _, is_stab _ _, is_stab _ _, is_stab _ _, is_stab _ _, is_stab _ _, is_stab _ _, is_stab _ _, is_stab _ _, is_stab _ _, is_stab _ _, is_stab _ _, is_stab _ _, is_stab _ _, is_stab _ _, is_stab _ _, is_stab _ _, trivial⟩ ⟨?o0, ?o1, ?o2, ?o3, ?o4, ?o5, ?o6, ?o7, ?o8, ?o9, ?o10, ?o11, ?o12, ?o13, ?o14, ?o15, ?o16, ?o17, trivial⟩ ?_
        case o0 =>
          intro vals wq hRq hpq
          simp only [List.getD_cons_zero, List.getD_cons_succ, canonP]
          simp only [Oper.gives]
          go_simp
          exact ⟨is_mk _ _, Grow.refl _⟩
        case o1 =>
          intro vals wq hRq hpq
          simp only [List.getD_cons_zero, List.getD_cons_succ, canonP]
          simp only [Oper.gives]
          go_simp
          exact ⟨is_mk _ _, Grow.refl _⟩
        case o2 =>
          intro vals wq hRq hpq
          simp only [List.getD_cons_zero, List.getD_cons_succ, canonP]
          simp only [Oper.gives]
          go_simp
          exact ⟨is_mk _ _, Grow.refl _⟩
        case o3 =>
          intro vals wq hRq hpq
          obtain ⟨f1, f2, _⟩ := hpq
          replace f1 : vals 1 = _ := f1
          replace f2 : vals 2 = _ := f2
          simp only [List.getD_cons_zero, List.getD_cons_succ, canonP, f1, f2]
          clear f1 f2
          simp only [Oper.gives]
          go_simp
          exact ⟨is_mk _ _, Grow.refl _⟩
        case o4 =>
          intro vals wq hRq hpq
          obtain ⟨f3, _⟩ := hpq
          replace f3 : vals 3 = _ := f3
          simp only [List.getD_cons_zero, List.getD_cons_succ, canonP, f3]
          clear f3
          simp only [Oper.gives]
          go_simp
          exact ⟨is_mk _ _, Grow.refl _⟩
        case o5 =>
          intro vals wq hRq hpq
          simp only [List.getD_cons_zero, List.getD_cons_succ, canonP]
          simp only [Oper.gives]
          go_simp
          exact ⟨is_mk _ _, Grow.refl _⟩
        case o6 =>
          intro vals wq hRq hpq
          simp only [List.getD_cons_zero, List.getD_cons_succ, canonP]
          simp only [Oper.gives]
          go_simp
          exact ⟨is_mk _ _, Grow.refl _⟩
        case o7 =>
          intro vals wq hRq hpq
          simp only [List.getD_cons_zero, List.getD_cons_succ, canonP]
          simp only [Oper.gives]
          go_simp
          exact ⟨is_mk _ _, Grow.refl _⟩
        case o8 =>
          intro vals wq hRq hpq
          obtain ⟨f6, f7, _⟩ := hpq
          replace f6 : vals 6 = _ := f6
          replace f7 : vals 7 = _ := f7
          simp only [List.getD_cons_zero, List.getD_cons_succ, canonP, f6, f7]
          clear f6 f7
          simp only [Oper.gives]
          go_simp
          exact ⟨is_mk _ _, Grow.refl _⟩
        case o9 =>
          intro vals wq hRq hpq
          obtain ⟨f8, _⟩ := hpq
          replace f8 : vals 8 = _ := f8
          simp only [List.getD_cons_zero, List.getD_cons_succ, canonP, f8]
          clear f8
          simp only [Oper.gives]
          go_simp
          exact ⟨is_mk _ _, Grow.refl _⟩
        case o10 =>
          intro vals wq hRq hpq
          obtain ⟨f5, f9, _⟩ := hpq
          replace f5 : vals 5 = _ := f5
          replace f9 : vals 9 = _ := f9
          simp only [List.getD_cons_zero, List.getD_cons_succ, canonP, f5, f9]
          clear f5 f9
          simp only [Oper.gives]
          go_simp
          exact ⟨is_mk _ _, Grow.refl _⟩
        case o11 =>
          intro vals wq hRq hpq
          obtain ⟨f10, _⟩ := hpq
          replace f10 : vals 10 = _ := f10
          simp only [List.getD_cons_zero, List.getD_cons_succ, canonP, f10]
          clear f10
          have hcell := Grow.ext hRq _ _ HCELL.out
          simp only [Oper.gives]
          go_simp
          exact ⟨is_mk _ _, Grow.refl _⟩
        case o12 =>
          intro vals wq hRq hpq
          simp only [List.getD_cons_zero, List.getD_cons_succ, canonP]
          simp only [Oper.gives]
          go_simp
          exact ⟨is_mk _ _, Grow.refl _⟩
        case o13 =>
          intro vals wq hRq hpq
          simp only [List.getD_cons_zero, List.getD_cons_succ, canonP]
          simp only [Oper.gives]
          go_simp
          exact ⟨is_mk _ _, Grow.refl _⟩
        case o14 =>
          intro vals wq hRq hpq
          obtain ⟨f12, f13, _⟩ := hpq
          replace f12 : vals 12 = _ := f12
          replace f13 : vals 13 = _ := f13
          simp only [List.getD_cons_zero, List.getD_cons_succ, canonP, f12, f13]
          clear f12 f13
          simp only [Oper.gives]
          go_simp
          exact ⟨is_mk _ _, Grow.refl _⟩
        case o15 =>
          intro vals wq hRq hpq
          obtain ⟨f14, _⟩ := hpq
          replace f14 : vals 14 = _ := f14
          simp only [List.getD_cons_zero, List.getD_cons_succ, canonP, f14]
          clear f14
          simp only [Oper.gives]
          go_simp
          exact ⟨is_mk _ _, Grow.refl _⟩
        case o16 =>
          intro vals wq hRq hpq
          obtain ⟨f15, _⟩ := hpq
          replace f15 : vals 15 = _ := f15
          simp only [List.getD_cons_zero, List.getD_cons_succ, canonP, f15]
          clear f15
          simp only [Oper.gives]
          go_simp
          exact ⟨is_mk _ _, Grow.refl _⟩
        case o17 =>
          intro vals wq hRq hpq
          obtain ⟨f11, f16, _⟩ := hpq
          replace f11 : vals 11 = _ := f11
          replace f16 : vals 16 = _ := f16
          simp only [List.getD_cons_zero, List.getD_cons_succ, canonP, f11, f16]
          clear f11 f16
          simp only [Oper.gives]
          go_simp
          exact ⟨is_mk _ _, Grow.refl _⟩
        intro vals wz hRwz hfwz
        obtain ⟨g0, g1, g2, g3, g4, g5, g6, g7, g8, g9, g10, g11, g12, g13, g14, g15, g16, g17, -⟩ := hfwz
        replace g0 : vals 0 = _ := g0
        replace g1 : vals 1 = _ := g1
        replace g2 : vals 2 = _ := g2
        replace g3 : vals 3 = _ := g3
        replace g4 : vals 4 = _ := g4
        replace g5 : vals 5 = _ := g5
        replace g6 : vals 6 = _ := g6
        replace g7 : vals 7 = _ := g7
        replace g8 : vals 8 = _ := g8
        replace g9 : vals 9 = _ := g9
        replace g10 : vals 10 = _ := g10
        replace g11 : vals 11 = _ := g11
        replace g12 : vals 12 = _ := g12
        replace g13 : vals 13 = _ := g13
        replace g14 : vals 14 = _ := g14
        replace g15 : vals 15 = _ := g15
        replace g16 : vals 16 = _ := g16
        replace g17 : vals 17 = _ := g17
        simp only [List.drop_succ_cons, List.drop_zero]
        simp only [canonP, Act.put, List.setIfInBounds_toArray, List.set_cons_succ, List.set_cons_zero, g0, g1, g2, g3, g4, g5, g6, g7, g8, g9, g10, g11, g12, g13, g14, g15, g16, g17]
        clear g0 g1 g2 g3 g4 g5 g6 g7 g8 g9 g10 g11 g12 g13 g14 g15 g16 g17
        have hfr : wz.frozen? ⟨g, i, none⟩ = false := (own_grow (w := wr.drew) HO.out hRwz).frozenAt i
        have OW := Lib.hid ((own_grow (w := wr.drew) HO.out hRwz).stored i (.int .u8 (z : Int)))
        have hcz := Grow.ext hRwz _ _ HCELL.out
        have BZ := Lib.hid (HBW.out.trans (Below.mono (show Below wr.heap.size wr wz from Grow.trans _ _ _ (show Grow wr wr.drew from (Below.refl _ _).drew) hRwz) HBW.out.size))
        clear hRwz
        go_wp2_with fail
        go_roundw
        case rel =>
          refine ⟨k + 1, by omega, by go_num, ?_, ?_⟩
          · rw [HT1.out, HIX.out]
            have := OW.out.1
            rw [← List.map_set] at this
            exact this
          · exact BZ.out.setCell (p := ⟨g, i, none⟩) (HO.out.lt g rfl).1 _
        case measure => simp only [intOf]; omega
    · obtain rfl : k = 32 := by omega
      have hsm := CrcPlain.turned_small bs HP.out.2.1 a o 32
      obtain ⟨vA, vc, hv, hby⟩ := own_bytes HO.out hsm
      have hiff := CrcPlain.sum_turned bs HP.out.2.1 a o (by rw [HP.out.1]; exact ha)
      have hfin : (((((CrcPlain.sum (turned bs a o 32)).toNat : Int) == ((CrcPlain.sum bs).toNat : Int))) == ((o.toNat : Int) == 0)) = true := by
        by_cases ho : o = 0#32
        · have h1 := hiff.2 ho
          rw [h1, ho]; simp
        · have h1 : CrcPlain.sum (turned bs a o 32) ≠ CrcPlain.sum bs := fun h => ho (hiff.1 h)
          have h2 : (((CrcPlain.sum (turned bs a o 32)).toNat : Int) == ((CrcPlain.sum bs).toNat : Int)) = false := by
            rw [beq_eq_false_iff_ne]
            intro h; exact h1 (BitVec.eq_of_toNat_eq (by omega))
          have h3 : ((o.toNat : Int) == 0) = false := by
            rw [beq_eq_false_iff_ne]
            intro h; exact ho (BitVec.eq_of_toNat_eq (by rw [show (0#32).toNat = 0 from rfl]; omega))
          rw [h2, h3]; rfl
      obtain ⟨rfl, -, rfl⟩ : some ⟨g, 0, none⟩ = vA ∧ True ∧ cap = vc := by simpa using hv
      have E0 := (Ext.below HB.out).trans (Ext.below HBW.out)
      obtain ⟨V1, b1, x1, r1, hV1⟩ := piece_in wr ⟨some ⟨g, 0, none⟩, n, cap, turned bs a o 32⟩ hby
      obtain ⟨V2, b2, x2, r2, hV2⟩ := piece_in V1 ⟨some ap, n, c, bs⟩ (HP.out.ext (E0.trans x1))
      have T1 := Lib.hid (HT.out.ext (E0.trans x1))
      have T2 := Lib.hid (HT.out.ext (E0.trans (x1.trans x2)))
      have c1 := HB.out.trans (HBW.out.mono HB.out.size)
      have hwr : w.heap.size ≤ wr.heap.size := c1.size
      have c2 := c1.trans (b1.mono hwr)
      have B2 := Lib.hid (c2.trans (b2.mono c2.size))
      have R1 := Lib.hid r1
      have R2 := Lib.hid r2
      have HV1 := Lib.hid hV1
      have HV2 := Lib.hid hV2
      have HF := Lib.hid hfin
      clear hsm hv hby hiff hfin E0 b1 x1 r1 hV1 b2 x2 r2 hV2 c1 c2 hwr
      go_wp2_with fail
      rw [← HV1.out]
      refine (sum_to _ 1 1 _ _ T1.out R1.out (by omega) (by simp; omega)).mono ?_
      rintro e w' ⟨rfl, rfl⟩
      rw [all_one]
      dsimp only
      go_wp2_with fail
      rw [← HV2.out]
      refine (sum_to _ 1 1 _ _ T2.out R2.out (by omega) (by simp; omega)).mono ?_
      rintro e w' ⟨rfl, rfl⟩
      rw [all_one]
      dsimp only
      have hfin := HF.out
      go_wp2_with fail
      go_ret
      exact ⟨rfl, B2.out⟩

set_option maxHeartbeats 1000000 in
theorem tells_out (A : Option Addr) (n c : Nat) (k : Int) (o : BitVec 32) (w : World) (ht : Tab w) (hc : n ≤ 140737488351232) (h : 20000 < n ∨ k < 0 ∨ 8 * (n : Int) - 32 < k) :
    Calls Tryd.prog 6 #[.slice A n c, .int .i64 k, V o] w fun e w' => e = .returned (.bool true) ∧ Below w.heap.size w w' := by
  have HT := Lib.hid ht
  clear ht
  unfold V
  by_cases h1 : 20000 < n
  · clear h
    go_enter Tryd.func6, Tryd.ntmps6
    go_wp2_with fail
    refine (awake_any _ HT.out).mono ?_
    rintro e w1 ⟨rfl, hb⟩
    have HB := Lib.hid hb
    clear hb
    go_wp2_with fail
    go_ret
    exact ⟨rfl, HB.out⟩
  by_cases h2 : k < 0
  · clear h
    go_enter Tryd.func6, Tryd.ntmps6
    go_wp2_with fail
    refine (awake_any _ HT.out).mono ?_
    rintro e w1 ⟨rfl, hb⟩
    have HB := Lib.hid hb
    clear hb
    go_wp2_with fail
    go_ret
    exact ⟨rfl, HB.out⟩
  · have h3 : 8 * (n : Int) - 32 < k := by omega
    clear h
    go_enter Tryd.func6, Tryd.ntmps6
    go_wp2_with fail
    refine (awake_any _ HT.out).mono ?_
    rintro e w1 ⟨rfl, hb⟩
    have HB := Lib.hid hb
    clear hb
    go_wp2_with fail
    go_ret
    exact ⟨rfl, HB.out⟩
theorem tells_all (A : Option Addr) (n c : Nat) (bs : List Nat) (k : Int) (o : BitVec 32) (w : World) (ht : Tab w) (hp : Bytes w A n bs) (hn : n ≤ c) (hc : c ≤ 140737488351232) :
    Calls Tryd.prog 6 #[.slice A n c, .int .i64 k, V o] w fun e w' => e = .returned (.bool true) ∧ Below w.heap.size w w' := by
  by_cases h : 20000 < n ∨ k < 0 ∨ 8 * (n : Int) - 32 < k
  · exact tells_out A n c k o w ht (by omega) h
  · obtain ⟨m, rfl⟩ := Int.eq_ofNat_of_zero_le (show 0 ≤ k by omega)
    obtain ⟨ap, rfl, _⟩ := hp.2.2 (by omega)
    exact tells_walk ap n c bs m o w ht hp hn hc (by omega) (by omega)
end Go.Proofs.YtcodhmfmdjopeaaDoor
