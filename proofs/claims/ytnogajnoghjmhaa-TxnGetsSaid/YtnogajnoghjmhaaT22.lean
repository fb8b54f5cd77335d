/- The law TxnUndone: the walk. -/
import Derived.Test.YtnogajnoghjmhaaT22a
set_option linter.unusedVariables false
set_option linter.unusedSimpArgs false
namespace Go.Proofs.Ytnogajnoghjmhaa
open Go.RowKit Go.Maps

theorem endT_two (t : TS) : ∃ z, endT t = (z, .c t.now) := by
  cases t with
  | c s => exact ⟨141, rfl⟩
  | o s q cr rv did => exact ⟨0, rfl⟩
theorem doT_in {x : AP} (hk : 2 < x.k % 10) (s q : PS) (cr rv : Int) (did : List (Int × Unit)) : ∃ z s' rv' did', doT (.o s q cr rv did) x = (z, .o s' q cr rv' did') := by
  unfold doT
  rw [if_neg (by omega), if_neg (by omega), if_neg (by omega)]
  split
  · unfold orderT; dsimp only; split <;> exact ⟨_, _, _, _, rfl⟩
  split
  · unfold forgetT; dsimp only; split
    · exact ⟨_, _, _, _, rfl⟩
    split <;> exact ⟨_, _, _, _, rfl⟩
  split
  · unfold forgetT; dsimp only; split
    · exact ⟨_, _, _, _, rfl⟩
    split <;> exact ⟨_, _, _, _, rfl⟩
  · unfold putT; dsimp only; split
    · exact ⟨_, _, _, _, rfl⟩
    split <;> exact ⟨_, _, _, _, rfl⟩
theorem ActsIn.len {w : World} {v : Value} {l : List AP} (h : ActsIn w v l) : ∃ a cap, v = .slice a l.length cap := by
  obtain ⟨a, cap, hv, _⟩ := h
  exact ⟨a, cap, hv⟩
set_option maxRecDepth 100000 in
set_option maxHeartbeats 8000000 in
theorem undone_walk (seq : Nat) (hs : seq < 4294967296) {w : World} {v1 v2 v3 : Value} {l1 l2 l3 : List AP} (h1 : ActsIn w v1 l1) (y1 : l1.length ≤ 9223372036854775807) (h2 : ActsIn w v2 l2) (y2 : l2.length ≤ 9223372036854775807) (h3 : ActsIn w v3 l3) (y3 : l3.length ≤ 9223372036854775807) (c r : Int) (hr : IntOk r) :
    Calls Try.prog 6 #[.int .u32 (seq : Int), v1, v2, v3, .int .i64 c, .int .i64 r] w fun e w' => e = .returned (.bool true) ∧ Below w.heap.size w w' := by
  have HA1 := Lib.hid h1
  obtain ⟨a1, cap1, hv1⟩ := ActsIn.len h1
  obtain ⟨n1, hn1⟩ : ∃ n, n = l1.length := ⟨_, rfl⟩
  rw [← hn1] at hv1 y1
  subst hv1
  have HN1 := Lib.hid hn1
  clear h1 hn1
  have HA2 := Lib.hid h2
  obtain ⟨a2, cap2, hv2⟩ := ActsIn.len h2
  obtain ⟨n2, hn2⟩ : ∃ n, n = l2.length := ⟨_, rfl⟩
  rw [← hn2] at hv2 y2
  subst hv2
  have HN2 := Lib.hid hn2
  clear h2 hn2
  have HA3 := Lib.hid h3
  obtain ⟨a3, cap3, hv3⟩ := ActsIn.len h3
  obtain ⟨n3, hn3⟩ : ∃ n, n = l3.length := ⟨_, rfl⟩
  rw [← hn3] at hv3 y3
  subst hv3
  have HN3 := Lib.hid hn3
  clear h3 hn3
  by_cases g1 : 100 < n1
  · have d1 : decide ((100 : Int) < (n1 : Int)) = true := decide_eq_true (by omega)
    go_enter Try.func6, Try.ntmps6
    go_wp2_with fail
    refine (awake_ok _).mono ?_
    rintro e w' ⟨rfl, hg⟩
    have HG := Lib.hid hg
    clear hg
    go_wp2_with fail
    go_ret
    exact ⟨rfl, HG.out⟩
  have d1 : decide ((100 : Int) < (n1 : Int)) = false := decide_eq_false (by omega)
  by_cases g2 : 100 < n2
  · have d2 : decide ((100 : Int) < (n2 : Int)) = true := decide_eq_true (by omega)
    go_enter Try.func6, Try.ntmps6
    go_wp2_with fail
    refine (awake_ok _).mono ?_
    rintro e w' ⟨rfl, hg⟩
    have HG := Lib.hid hg
    clear hg
    go_wp2_with fail
    go_ret
    exact ⟨rfl, HG.out⟩
  have d2 : decide ((100 : Int) < (n2 : Int)) = false := decide_eq_false (by omega)
  by_cases g3 : 100 < n3
  · have d3 : decide ((100 : Int) < (n3 : Int)) = true := decide_eq_true (by omega)
    go_enter Try.func6, Try.ntmps6
    go_wp2_with fail
    refine (awake_ok _).mono ?_
    rintro e w' ⟨rfl, hg⟩
    have HG := Lib.hid hg
    clear hg
    go_wp2_with fail
    go_ret
    exact ⟨rfl, HG.out⟩
  have d3 : decide ((100 : Int) < (n3 : Int)) = false := decide_eq_false (by omega)
  go_enter Try.func6, Try.ntmps6
  go_wp2_with fail
  refine (live_new seq (P := []) _ (by simp)).mono ?_
  rintro e w1 ⟨A, rfl, hl⟩
  have HL := Lib.hid hl
  clear hl
  go_wp2_with fail
  refine (two_new HL.out).mono ?_
  rintro e w2 ⟨B, rfl, hT⟩
  have HT0 := Lib.hid hT
  clear hT
  go_wp2_with fail
  clear d1 d2 d3
  go_loopw [15] (fun t15 wr => ∃ (k : Nat), k ≤ n1 ∧ t15 = .int .i64 (k : Int) ∧ ∃ t, Hid (Two w A B k k seq t t wr)) (fun t15 _ => n1 - (intOfV t15).toNat)
  case atStart => exact ⟨0, by omega, rfl, _, HT0⟩
  case round =>
    obtain ⟨k, hk, rfl, t, HT⟩ := hrel
    by_cases hlt : k < n1
    · obtain ⟨x, hx⟩ : ∃ x, l1[k]? = some x := ⟨l1[k]'(by rw [← HN1.out]; exact hlt), by simp⟩
      obtain ⟨y, cap', hv, hyb, hat⟩ := HA1.out.at_ hx
      rw [← HN1.out] at hv
      cases hv
      have hyb4 : (y.add (k * 4)).block < w.heap.size := by rw [add_block]; exact hyb
      have hat2 := hat.grow hyb4 hyb4 HT.out.grow
      have HYB := Lib.hid hyb4
      have HAT := Lib.hid hat2
      have HXO := Lib.hid hat2.2.2.2.2
      have b0 : (0 : Int) ≤ (k : Int) := by omega
      have b1 : (k : Int) < (n1 : Int) := by omega
      obtain ⟨⟨z, t'⟩, hzr⟩ : ∃ zr, doT t x = zr := ⟨_, rfl⟩
      have HZR := Lib.hid hzr
      have k0 : wr.cell? (y.add (k * 4)) = some (.int .u8 (x.k : Int)) := hat2.1
      have k1 : wr.cell? { block := (y.add (k * 4)).block, off := (y.add (k * 4)).off + 1 } = some (.int .i64 x.at_) := hat2.2.1
      have k2 : wr.cell? { block := (y.add (k * 4)).block, off := (y.add (k * 4)).off + 2 } = some (.int .i64 x.more) := hat2.2.2.1
      have k3 : wr.cell? { block := (y.add (k * 4)).block, off := (y.add (k * 4)).off + 3 } = some (.int .u32 (x.fill : Int)) := hat2.2.2.2.1
      clear hx hyb hat hyb4 hzr hat2
      go_wp2_with fail
      refine (HT.out.do_ (by omega) hs HXO.out).mono ?_
      intro e w3 hp
      unfold TwoPost at hp
      rw [HZR.out] at hp
      obtain ⟨rfl, hT, hb⟩ := hp
      have HT3 := Lib.hid hT.swap
      have hat3 := HAT.out.grow (Nat.lt_of_lt_of_le HYB.out HT.out.grow.size) HYB.out hb
      clear k0 k1 k2 k3 hT hb
      have k0 : w3.cell? (y.add (k * 4)) = some (.int .u8 (x.k : Int)) := hat3.1
      have k1 : w3.cell? { block := (y.add (k * 4)).block, off := (y.add (k * 4)).off + 1 } = some (.int .i64 x.at_) := hat3.2.1
      have k2 : w3.cell? { block := (y.add (k * 4)).block, off := (y.add (k * 4)).off + 2 } = some (.int .i64 x.more) := hat3.2.2.1
      have k3 : w3.cell? { block := (y.add (k * 4)).block, off := (y.add (k * 4)).off + 3 } = some (.int .u32 (x.fill : Int)) := hat3.2.2.2.1
      clear hat3
      go_wp2_with fail
      refine (HT3.out.do_ (by omega) hs HXO.out).mono ?_
      intro e w4 hp
      unfold TwoPost at hp
      rw [HZR.out] at hp
      obtain ⟨rfl, hT, hb⟩ := hp
      have HT4 := Lib.hid hT.swap
      clear k0 k1 k2 k3 hT hb
      go_wp2_with fail
      go_roundw
      case rel => exact ⟨k + 1, by omega, by go_num, t', HT4⟩
      case measure => simp [intOfV]; omega
    · obtain rfl : k = n1 := by omega
      obtain ⟨m1, rfl⟩ : ∃ m1 : Nat, m1 = k := ⟨_, rfl⟩
      go_wp2_with fail
      obtain ⟨ze, hze⟩ := endT_two t
      have HZE := Lib.hid hze
      clear hze
      refine (HT.out.end_).mono ?_
      intro e w5 hp
      unfold TwoPost at hp
      rw [HZE.out] at hp
      obtain ⟨rfl, hT, hb⟩ := hp
      have HT5 := Lib.hid hT.swap
      clear hT hb
      go_wp2_with fail
      refine (HT5.out.end_).mono ?_
      intro e w6 hp
      unfold TwoPost at hp
      rw [HZE.out] at hp
      obtain ⟨rfl, hT, hb⟩ := hp
      have HT6 := Lib.hid hT.swap
      clear hT hb
      obtain ⟨s, hsn⟩ : ∃ s, t.now = s := ⟨_, rfl⟩
      rw [hsn] at HT6
      clear hsn HT5 HZE
      go_wp2_with fail
      refine (HT6.out.begin_ (by omega) hs (c := c) hr).mono ?_
      by_cases hneg : c < 0 ∨ r < 0
      · have HB := Lib.hid (show beginT (.c s) c r = (2, .c s) by unfold beginT; dsimp only; rw [if_pos hneg])
        intro e w7 hp
        unfold TwoPost at hp
        rw [HB.out] at hp
        obtain ⟨rfl, hT, hb⟩ := hp
        have HT7 := Lib.hid hT
        clear hT hb
        go_wp2_with fail
        refine (same_ok HT7.out rfl (by omega) (by omega)).mono ?_
        rintro e ws ⟨rfl, hT⟩
        have HT3 := Lib.hid (hT.mono (M' := 400) (N' := 400) (by omega) (by omega))
        clear hT
        go_wp2_with fail
        go_loopw [18] (fun t18 wr => ∃ (k : Nat), k ≤ n3 ∧ t18 = .int .i64 (k : Int) ∧ ∃ t, Hid (Two w A B (400 + k) (400 + k) seq t t wr)) (fun t18 _ => n3 - (intOfV t18).toNat)
        case atStart => exact ⟨0, by omega, rfl, _, HT3⟩
        case round =>
          obtain ⟨k, hk, rfl, t, HT⟩ := hrel
          by_cases hlt : k < n3
          · obtain ⟨x, hx⟩ : ∃ x, l3[k]? = some x := ⟨l3[k]'(by rw [← HN3.out]; exact hlt), by simp⟩
            obtain ⟨y, cap', hv, hyb, hat⟩ := HA3.out.at_ hx
            rw [← HN3.out] at hv
            cases hv
            have hyb4 : (y.add (k * 4)).block < w.heap.size := by rw [add_block]; exact hyb
            have HAT := Lib.hid (hat.grow hyb4 hyb4 HT.out.grow)
            have HYB := Lib.hid (And.intro (Nat.lt_of_lt_of_le hyb4 HT.out.grow.size) hyb4)
            have HXO := Lib.hid hat.2.2.2.2
            obtain ⟨⟨z, r⟩, hzr⟩ : ∃ zr, doT t x = zr := ⟨_, rfl⟩
            have HZR := Lib.hid hzr
            clear hx hyb hat hyb4 hzr
            go_upto_region 24 with (fail)
            refine undone_reg24 w.heap.size A B (400 + k) (400 + k) seq k n3 cap3 z t r x y w wr HT HZR (by omega) (by omega) hs HXO (Lib.hid (by omega)) (Lib.hid (by omega)) HAT HYB (Lib.hid rfl) _ _ _ _ _ _ _ _ _ _ _ _ _ _ _ _ _ _ _ _ _ _ _ _ _ _ _ _ _ _ _ _ _ _ _ _ _ _ _ _ _ _ _ _ _ _ _ _ _ _ _ _ _ _ _ _ _ _ _ _ _ _ _ _ _ _ _ _ _ _ _ _ _ _ _ _ _ _ _ _ _ _ _ _ _ _ _ _ _ _ _ _ _ _ _ _ _ _ _ _ _ _ _ _ _ _ _ _ _ _ _ _ (Lib.hid ?hk1)
            intro u96 u97 u98 u99 u100 u101 u102 u103 u104 u105 u106 u107 wz hT
            have HTz := Lib.hid hT
            clear hT
            go_wp2_with fail
            go_roundw
            case rel => exact ⟨k + 1, by omega, by go_num, r, HTz⟩
            case measure => simp [intOfV]; omega
          · obtain rfl : k = n3 := by omega
            go_wp2_with fail
            refine (same_ok HT.out rfl (by omega) (by omega)).mono ?_
            rintro e wf ⟨rfl, hT⟩
            have HG := Lib.hid hT.grow
            clear hT
            go_wp2_with fail
            refine (awake_ok _).mono ?_
            rintro e wg ⟨rfl, hg⟩
            have HG2 := Lib.hid (Grow.trans HG.out hg)
            clear hg
            go_wp2_with fail
            go_ret
            exact ⟨rfl, HG2.out⟩
      · have HB := Lib.hid (show beginT (.c s) c r = (0, .o s s c r []) by unfold beginT; dsimp only; rw [if_neg hneg])
        intro e w7 hp
        unfold TwoPost at hp
        rw [HB.out] at hp
        obtain ⟨rfl, hT, hb⟩ := hp
        have HT7 := Lib.hid hT
        clear hT hb
        go_wp2_with fail
        obtain ⟨wq, rfl⟩ : ∃ wq : World, wq = wr := ⟨_, rfl⟩
        go_loopw [17] (fun t17 wr => ∃ (k : Nat), k ≤ n2 ∧ t17 = .int .i64 (k : Int) ∧ ∃ s' rv did, Hid (Two w A B (m1 + 1 + 1 + k) (m1 + 1) seq (.o s' s c rv did) (.c s) wr)) (fun t17 _ => n2 - (intOfV t17).toNat)
        case atStart => exact ⟨0, by omega, rfl, _, _, _, HT7⟩
        case round =>
          obtain ⟨k, hk, rfl, s', rv, did, HT⟩ := hrel
          by_cases hlt : k < n2
          · obtain ⟨x, hx⟩ : ∃ x, l2[k]? = some x := ⟨l2[k]'(by rw [← HN2.out]; exact hlt), by simp⟩
            obtain ⟨y, cap', hv, hyb, hat⟩ := HA2.out.at_ hx
            rw [← HN2.out] at hv
            cases hv
            have hyb4 : (y.add (k * 4)).block < w.heap.size := by rw [add_block]; exact hyb
            have hat2 := hat.grow hyb4 hyb4 HT.out.grow
            have HYB := Lib.hid hyb4
            have HAT := Lib.hid hat2
            have HXO := Lib.hid hat2.2.2.2.2
            have b0 : (0 : Int) ≤ (k : Int) := by omega
            have b1 : (k : Int) < (n2 : Int) := by omega
            have k0 : wr.cell? (y.add (k * 4)) = some (.int .u8 (x.k : Int)) := hat2.1
            have k1 : wr.cell? { block := (y.add (k * 4)).block, off := (y.add (k * 4)).off + 1 } = some (.int .i64 x.at_) := hat2.2.1
            have k2 : wr.cell? { block := (y.add (k * 4)).block, off := (y.add (k * 4)).off + 2 } = some (.int .i64 x.more) := hat2.2.2.1
            have k3 : wr.cell? { block := (y.add (k * 4)).block, off := (y.add (k * 4)).off + 3 } = some (.int .u32 (x.fill : Int)) := hat2.2.2.2.1
            clear hx hyb hat hyb4 hat2
            have hxk := HXO.out.k
            by_cases hin : 2 < x.k % 10
            · have e0 : decide ((2 : Int) < (x.k : Int) % 10) = true := decide_eq_true (by omega)
              obtain ⟨z, s2, rv2, did2, hzr⟩ := doT_in hin s' s c rv did
              have HZR := Lib.hid hzr
              clear hzr
              go_wp2_with fail
              refine (HT.out.do_ (by omega) hs HXO.out).mono ?_
              intro e w8 hp
              unfold TwoPost at hp
              rw [HZR.out] at hp
              obtain ⟨rfl, hT, hb⟩ := hp
              have HT8 := Lib.hid hT
              clear hT hb k0 k1 k2 k3
              go_wp2_with fail
              go_roundw
              case rel => exact ⟨k + 1, by omega, by go_num, s2, rv2, did2, HT8⟩
              case measure => simp [intOfV]; omega
            · have e0 : decide ((2 : Int) < (x.k : Int) % 10) = false := decide_eq_false (by omega)
              go_wp2_with fail
              go_roundw
              case rel => exact ⟨k + 1, by omega, by go_num, s', rv, did, Lib.hid (HT.out.mono (by omega) (Nat.le_refl _))⟩
              case measure => simp [intOfV]; omega
          · obtain rfl : k = n2 := by omega
            go_wp2_with fail
            refine (HT.out.undo_).mono ?_
            intro e w9 hp
            obtain ⟨rfl, hT, hb⟩ := hp
            have HT9 := Lib.hid (show Two w A B (m1 + 1 + 1 + k + 1) (m1 + 1) seq (.c s) (.c s) w9 from hT)
            clear hT hb
            go_wp2_with fail
            refine (same_ok HT9.out rfl (by omega) (by omega)).mono ?_
            rintro e ws ⟨rfl, hT⟩
            have HT3 := Lib.hid (hT.mono (M' := 400) (N' := 400) (by omega) (by omega))
            clear hT
            go_wp2_with fail
            go_loopw [18] (fun t18 wr => ∃ (k : Nat), k ≤ n3 ∧ t18 = .int .i64 (k : Int) ∧ ∃ t, Hid (Two w A B (400 + k) (400 + k) seq t t wr)) (fun t18 _ => n3 - (intOfV t18).toNat)
            case atStart => exact ⟨0, by omega, rfl, _, HT3⟩
            case round =>
              obtain ⟨k, hk, rfl, t, HT⟩ := hrel
              by_cases hlt : k < n3
              · obtain ⟨x, hx⟩ : ∃ x, l3[k]? = some x := ⟨l3[k]'(by rw [← HN3.out]; exact hlt), by simp⟩
                obtain ⟨y, cap', hv, hyb, hat⟩ := HA3.out.at_ hx
                rw [← HN3.out] at hv
                cases hv
                have hyb4 : (y.add (k * 4)).block < w.heap.size := by rw [add_block]; exact hyb
                have HAT := Lib.hid (hat.grow hyb4 hyb4 HT.out.grow)
                have HYB := Lib.hid (And.intro (Nat.lt_of_lt_of_le hyb4 HT.out.grow.size) hyb4)
                have HXO := Lib.hid hat.2.2.2.2
                obtain ⟨⟨z, r⟩, hzr⟩ : ∃ zr, doT t x = zr := ⟨_, rfl⟩
                have HZR := Lib.hid hzr
                clear hx hyb hat hyb4 hzr
                go_upto_region 24 with (fail)
                refine undone_reg24 w.heap.size A B (400 + k) (400 + k) seq k n3 cap3 z t r x y w wr HT HZR (by omega) (by omega) hs HXO (Lib.hid (by omega)) (Lib.hid (by omega)) HAT HYB (Lib.hid rfl) _ _ _ _ _ _ _ _ _ _ _ _ _ _ _ _ _ _ _ _ _ _ _ _ _ _ _ _ _ _ _ _ _ _ _ _ _ _ _ _ _ _ _ _ _ _ _ _ _ _ _ _ _ _ _ _ _ _ _ _ _ _ _ _ _ _ _ _ _ _ _ _ _ _ _ _ _ _ _ _ _ _ _ _ _ _ _ _ _ _ _ _ _ _ _ _ _ _ _ _ _ _ _ _ _ _ _ _ _ _ _ _ (Lib.hid ?hk2)
                intro u96 u97 u98 u99 u100 u101 u102 u103 u104 u105 u106 u107 wz hT
                have HTz := Lib.hid hT
                clear hT
                go_wp2_with fail
                go_roundw
                case rel => exact ⟨k + 1, by omega, by go_num, r, HTz⟩
                case measure => simp [intOfV]; omega
              · obtain rfl : k = n3 := by omega
                go_wp2_with fail
                refine (same_ok HT.out rfl (by omega) (by omega)).mono ?_
                rintro e wf ⟨rfl, hT⟩
                have HG := Lib.hid hT.grow
                clear hT
                go_wp2_with fail
                refine (awake_ok _).mono ?_
                rintro e wg ⟨rfl, hg⟩
                have HG2 := Lib.hid (Grow.trans HG.out hg)
                clear hg
                go_wp2_with fail
                go_ret
                exact ⟨rfl, HG2.out⟩
#print axioms undone_walk
end Go.Proofs.Ytnogajnoghjmhaa
