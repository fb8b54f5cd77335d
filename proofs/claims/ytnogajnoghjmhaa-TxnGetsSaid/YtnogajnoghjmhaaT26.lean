/- The law TxnForgets: the walk. -/
import Derived.Test.YtnogajnoghjmhaaT25
set_option linter.unusedVariables false
set_option linter.unusedSimpArgs false
namespace Go.Proofs.Ytnogajnoghjmhaa
open Go.RowKit Go.Maps

theorem Live.small {w0 : World} {P : List Nat} {B N seq : Nat} {t : TS} {w : World} (h : Live w0 P B N seq t w) : (keysA t.now.ch).length ≤ N ∧ (keysA t.now.od).length ≤ N ∧ (keysA t.now.fr).length ≤ N ∧ t.now.rv.length ≤ N := by
  obtain ⟨ids, h1, _⟩ := h.ex
  exact h1.small
theorem mem_sortI_dec {l : List (Int × Unit)} {b : Int} {f : Bool} (h : b ∈ keysA l ↔ f = true) : decide (b ∈ sortI (keysA l)) = f := by
  cases f
  · exact decide_eq_false fun hm => by have := h.1 ((sortI_perm _).mem_iff.1 hm); cases this
  · exact decide_eq_true ((sortI_perm _).mem_iff.2 (h.2 rfl))
theorem mem_sortB_dec {l : List (Int × Blk)} {b : Int} (h : b ∉ keysA l) : decide (b ∈ sortI (keysA l)) = false := decide_eq_false fun hm => h ((sortI_perm _).mem_iff.1 hm)
noncomputable def forgets_reg20Code : Code := regById 20 (codesOf (Try.f4.body.getD .skip))
set_option maxRecDepth 100000 in
set_option maxHeartbeats 4000000 in
theorem forgets_reg20 (was rvk wv : Bool) (h : Hid ((was || rvk) = wv)) (W1 : World) (s0 s1 s2 s4 s5 s6 s7 s8 s9 s11 s12 s13 s14 s15 s16 s17 s18 s19 s20 s21 s22 s23 s24 s25 s26 s27 s28 s29 s30 s31 s32 s33 s34 s35 s36 s37 s38 s39 s40 s41 s42 s43 s44 s45 s46 s47 s48 s49 s50 s51 s52 s53 s54 s55 s56 s57 s58 s59 s60 s61 s62 s63 s64 s65 s66 s67 s68 s69 s70 s71 s72 s73 s74 s75 s76 s77 s78 s79 s80 s81 s82 s83 s84 s85 s86 s87 s88 s89 s90 s91 s92 s93 s94 s95 s96 s97 s98 s99 s100 s101 s102 s103 s104 s105 s106 s107 s108 s109 s110 s111 s112 s113 s114 s115 s116 s117 s118 s119 s120 s121 s122 s123 s124 s125 s126 s127 s128 s129 s130 s131 s132 s133 s134 s135 s136 s137 s138 s139 s140 s141 s142 s143 s144 : Value) (Q : Exit → Act → World → Prop) (HK : Hid (∀ u73 u74 u75 u76, Q .normal ⟨(s0 :: s1 :: s2 :: .bool rvk :: s4 :: s5 :: s6 :: s7 :: s8 :: s9 :: .bool wv :: s11 :: s12 :: s13 :: s14 :: s15 :: s16 :: s17 :: s18 :: s19 :: s20 :: s21 :: s22 :: s23 :: s24 :: s25 :: s26 :: s27 :: s28 :: s29 :: s30 :: s31 :: s32 :: s33 :: s34 :: s35 :: s36 :: s37 :: s38 :: s39 :: s40 :: s41 :: s42 :: s43 :: s44 :: s45 :: s46 :: s47 :: s48 :: s49 :: s50 :: s51 :: s52 :: s53 :: s54 :: s55 :: s56 :: s57 :: s58 :: s59 :: s60 :: s61 :: s62 :: s63 :: s64 :: s65 :: s66 :: s67 :: s68 :: s69 :: s70 :: s71 :: s72 :: u73 :: u74 :: u75 :: u76 :: s77 :: s78 :: s79 :: s80 :: s81 :: s82 :: s83 :: s84 :: s85 :: s86 :: s87 :: s88 :: s89 :: s90 :: s91 :: s92 :: s93 :: s94 :: s95 :: s96 :: s97 :: s98 :: s99 :: s100 :: s101 :: s102 :: s103 :: s104 :: s105 :: s106 :: s107 :: s108 :: s109 :: s110 :: s111 :: s112 :: s113 :: s114 :: s115 :: s116 :: s117 :: s118 :: s119 :: s120 :: s121 :: s122 :: s123 :: s124 :: s125 :: s126 :: s127 :: s128 :: s129 :: s130 :: s131 :: s132 :: s133 :: s134 :: s135 :: s136 :: s137 :: s138 :: s139 :: s140 :: s141 :: s142 :: s143 :: s144 :: []).toArray, []⟩ W1)) : forgets_reg20Code.wp Try.prog Q ⟨(s0 :: s1 :: s2 :: .bool rvk :: s4 :: s5 :: s6 :: s7 :: s8 :: s9 :: .bool was :: s11 :: s12 :: s13 :: s14 :: s15 :: s16 :: s17 :: s18 :: s19 :: s20 :: s21 :: s22 :: s23 :: s24 :: s25 :: s26 :: s27 :: s28 :: s29 :: s30 :: s31 :: s32 :: s33 :: s34 :: s35 :: s36 :: s37 :: s38 :: s39 :: s40 :: s41 :: s42 :: s43 :: s44 :: s45 :: s46 :: s47 :: s48 :: s49 :: s50 :: s51 :: s52 :: s53 :: s54 :: s55 :: s56 :: s57 :: s58 :: s59 :: s60 :: s61 :: s62 :: s63 :: s64 :: s65 :: s66 :: s67 :: s68 :: s69 :: s70 :: s71 :: s72 :: s73 :: s74 :: s75 :: s76 :: s77 :: s78 :: s79 :: s80 :: s81 :: s82 :: s83 :: s84 :: s85 :: s86 :: s87 :: s88 :: s89 :: s90 :: s91 :: s92 :: s93 :: s94 :: s95 :: s96 :: s97 :: s98 :: s99 :: s100 :: s101 :: s102 :: s103 :: s104 :: s105 :: s106 :: s107 :: s108 :: s109 :: s110 :: s111 :: s112 :: s113 :: s114 :: s115 :: s116 :: s117 :: s118 :: s119 :: s120 :: s121 :: s122 :: s123 :: s124 :: s125 :: s126 :: s127 :: s128 :: s129 :: s130 :: s131 :: s132 :: s133 :: s134 :: s135 :: s136 :: s137 :: s138 :: s139 :: s140 :: s141 :: s142 :: s143 :: s144 :: []).toArray, []⟩ W1 := by
  obtain rfl := h.out
  clear h
  conv => arg 2; whnf
  cases was
  · have HK2 := Lib.hid HK.out
    clear HK
    go_wp2_with fail
    exact HK2.out _ _ _ _
  · have HK2 := Lib.hid HK.out
    clear HK
    go_wp2_with fail
    exact HK2.out _ _ _ _
set_option maxRecDepth 100000 in
set_option maxHeartbeats 8000000 in
theorem forgets_walk (seq : Nat) (hs : seq < 4294967296) (b : Int) (hb : IntOk b) {w : World} {v2 : Value} {l : List Nat} (h2 : U8sIn w v2 l) (y2 : l.length ≤ 9223372036854775807) (rvk : Bool) :
    Calls Try.prog 4 #[.int .u32 (seq : Int), .int .i64 b, v2, .bool rvk] w fun e w' => e = .returned (.bool true) ∧ Below w.heap.size w w' := by
  have hz := zero32
  have hzs := zero_size
  have HA := Lib.hid h2
  obtain ⟨a2, cap2, hv2⟩ := U8sIn.len h2
  obtain ⟨n, hn⟩ : ∃ n, n = l.length := ⟨_, rfl⟩
  rw [← hn] at hv2 y2
  subst hv2
  have HN := Lib.hid hn
  clear h2 hn
  obtain ⟨Z, hZ⟩ : ∃ Z, Z = (bc zeroB).toArray := ⟨_, rfl⟩
  rw [← hZ] at hzs
  simp only [← hZ] at hz
  have HZS := Lib.hid hzs
  clear hzs hZ
  by_cases g0 : b < 0
  · have d0 : decide (b < 0) = true := decide_eq_true g0
    go_enter Try.func4, Try.ntmps4
    go_wp2_with fail
    go_ret
    exact ⟨rfl, Below.refl _ _⟩
  have d0 : decide (b < 0) = false := decide_eq_false g0
  have h0 : 0 ≤ b := by omega
  by_cases g1 : 50 < n
  · have d1 : decide ((50 : Int) < (n : Int)) = true := decide_eq_true (by omega)
    go_enter Try.func4, Try.ntmps4
    go_wp2_with fail
    go_ret
    exact ⟨rfl, Below.refl _ _⟩
  have d1 : decide ((50 : Int) < (n : Int)) = false := decide_eq_false (by omega)
  go_enter Try.func4, Try.ntmps4
  go_wp2_with fail
  refine (live_new seq (P := []) _ (by simp)).mono ?_
  rintro e w1 ⟨B, rfl, hl⟩
  have HL0 := Lib.hid hl
  clear hl
  go_wp2_with fail
  refine (HL0.out.begin_ (by omega) hs (c := 1) (r := 100) ⟨by omega, by omega⟩).mono ?_
  intro e w2 hp
  obtain ⟨rfl, hT, _⟩ := hp
  have HT0 := Lib.hid (show Live w [] B 1 seq (.o noPS noPS 1 100 []) w2 from hT)
  have HI0 := Lib.hid (FInv.start b)
  have hz0 : (beginT (.c noPS) 1 100).1 = 0 := rfl
  rw [hz0]
  clear hT hz0
  go_wp2_with fail
  clear d0 d1 g0
  go_loopw [10, 11] (fun t10 t11 wr => ∃ (k : Nat) (was : Bool) (t : TS), k ≤ n ∧ t11 = .int .i64 (k : Int) ∧ t10 = .bool was ∧ Hid (Live w [] B (1 + k) seq t wr) ∧ Hid (FInv b k was t)) (fun _ t11 _ => n - (intOfV t11).toNat)
  case atStart => exact ⟨0, false, _, by omega, rfl, rfl, HT0, HI0⟩
  case round =>
    obtain ⟨k, was, t, hk, rfl, rfl, HT, HI⟩ := hrel
    by_cases hlt : k < n
    · obtain ⟨p, hp⟩ : ∃ p, l[k]? = some p := ⟨l[k]'(by rw [← HN.out]; exact hlt), by simp⟩
      obtain ⟨y, cap', hv, hyb, hc, hp4⟩ := HA.out.at_ hp
      rw [← HN.out] at hv
      cases hv
      have HC := Lib.hid (show wr.cell? (y.add k) = some (.int .u8 (p : Int)) from (HT.out.grow.cell (by rw [add_block]; exact hyb)).trans hc)
      have HYB := Lib.hid (show (y.add k).block < w.heap.size by rw [add_block]; exact hyb)
      have HC0 := Lib.hid hc
      have k0 := HC.out
      have b0 : (0 : Int) ≤ (k : Int) := by omega
      have b1 : (k : Int) < (n : Int) := by omega
      clear hp hc hyb
      by_cases p0 : p % 4 = 0
      · have e0 : ((p : Int) % 4 == 0) = true := by simp; omega
        obtain ⟨t', hq, hi', _⟩ := HI.out.put h0 (fillB 1)
        have HQ := Lib.hid hq
        have HI' := Lib.hid hi'
        clear hq hi'
        go_wp2_with fail
        refine (fill_any 1 (by omega) _).mono ?_
        rintro e wf ⟨rfl, hg⟩
        have HTf := Lib.hid (HT.out.later hg)
        clear hg
        go_wp2_with fail
        refine (HTf.out.put_ (by omega) hs hb (fillB_length 1)).mono ?_
        intro e w4 hp
        unfold LPost at hp
        rw [HQ.out] at hp
        obtain ⟨rfl, hT, _⟩ := hp
        have HT4 := Lib.hid hT
        clear hT
        go_wp2_with fail
        go_roundw
        case rel => exact ⟨k + 1, false, t', by omega, by go_num, rfl, HT4, HI'⟩
        case measure => simp [intOfV]; omega
      have e0 : ((p : Int) % 4 == 0) = false := by simp; omega
      by_cases p1 : p % 4 = 1
      · have e1 : ((p : Int) % 4 == 1) = true := by simp; omega
        obtain ⟨t', hq, hi'⟩ := HI.out.order h0
        have HQ := Lib.hid hq
        have HI' := Lib.hid hi'
        clear hq hi'
        go_wp2_with fail
        refine (HT.out.order_ (by omega) hb).mono ?_
        intro e w4 hp
        unfold LPost at hp
        rw [HQ.out] at hp
        obtain ⟨rfl, hT, _⟩ := hp
        have HT4 := Lib.hid hT
        clear hT
        go_wp2_with fail
        go_roundw
        case rel => exact ⟨k + 1, was, t', by omega, by go_num, rfl, HT4, HI'⟩
        case measure => simp [intOfV]; omega
      have e1 : ((p : Int) % 4 == 1) = false := by simp; omega
      by_cases p2 : p % 4 = 2
      · have e2 : ((p : Int) % 4 == 2) = true := by simp; omega
        obtain ⟨t', hq, hi', _⟩ := HI.out.forget h0 (by omega) true
        have HQ := Lib.hid hq
        have HI' := Lib.hid hi'
        clear hq hi'
        go_wp2_with fail
        refine (HT.out.forget_ (by omega) hs hb true).mono ?_
        intro e w4 hp
        unfold LPost at hp
        rw [HQ.out] at hp
        obtain ⟨rfl, hT, hsp⟩ := hp
        have HT4 := Lib.hid hT
        have k0 : w4.cell? (y.add k) = some (.int .u8 (p : Int)) := by
          have hgr := HT4.out.grow
          exact (hgr.cell HYB.out).trans HC0.out
        clear hT hsp
        cases was
        · go_wp2_with fail
          go_roundw
          case rel => exact ⟨k + 1, true, t', by omega, by go_num, rfl, HT4, HI'⟩
          case measure => simp [intOfV]; omega
        · go_wp2_with fail
          go_roundw
          case rel => exact ⟨k + 1, true, t', by omega, by go_num, rfl, HT4, HI'⟩
          case measure => simp [intOfV]; omega
      have e2 : ((p : Int) % 4 == 2) = false := by simp; omega
      obtain ⟨t', hq, hi', _⟩ := HI.out.forget h0 (by omega) false
      have HQ := Lib.hid hq
      have HI' := Lib.hid hi'
      clear hq hi'
      go_wp2_with fail
      refine (HT.out.forget_ (by omega) hs hb false).mono ?_
      intro e w4 hp
      unfold LPost at hp
      rw [HQ.out] at hp
      obtain ⟨rfl, hT, hsp⟩ := hp
      have HT4 := Lib.hid hT
      have k0 : w4.cell? (y.add k) = some (.int .u8 (p : Int)) := by
        have hgr := HT4.out.grow
        exact (hgr.cell HYB.out).trans HC0.out
      clear hT hsp
      cases was
      · go_wp2_with fail
        go_roundw
        case rel => exact ⟨k + 1, false, t', by omega, by go_num, rfl, HT4, HI'⟩
        case measure => simp [intOfV]; omega
      · go_wp2_with fail
        go_roundw
        case rel => exact ⟨k + 1, true, t', by omega, by go_num, rfl, HT4, HI'⟩
        case measure => simp [intOfV]; omega
    · obtain rfl : k = n := by omega
      obtain ⟨t', hq, hi', hc1, hc2, hc3, hc4⟩ := HI.out.forget h0 (by omega) rvk
      have HQ := Lib.hid hq
      have HI' := Lib.hid hi'
      have V1 := Lib.hid (mem_sortB_dec hc1)
      have V2 := Lib.hid (mem_sortI_dec (f := false) ⟨fun h => absurd h hc2, fun h => by cases h⟩)
      have V3 := Lib.hid (mem_sortI_dec (f := true) ⟨fun _ => rfl, fun _ => hc3⟩)
      have V4 := Lib.hid (show decide (b ∈ t'.now.rv) = (was || rvk) by
        cases hw : (was || rvk)
        · exact decide_eq_false fun hm => by have := hc4.1 hm; rw [hw] at this; cases this
        · exact decide_eq_true (hc4.2 hw))
      have VL := Lib.hid (show lookA t'.now.ch b = none from lookA_none hc1)
      have VK := Lib.hid (show decide (b ∈ keysA t'.now.ch) = false from decide_eq_false hc1)
      clear hq hi' hc1 hc2 hc3 hc4
      go_wp2_with fail
      refine (HT.out.forget_ (by omega) hs hb rvk).mono ?_
      intro e w4 hp
      unfold LPost at hp
      rw [HQ.out] at hp
      obtain ⟨rfl, hT, _⟩ := hp
      have HT4 := Lib.hid hT
      clear hT
      obtain ⟨wv, hwv⟩ : ∃ wv, (was || rvk) = wv := ⟨_, rfl⟩
      rw [hwv] at V4 HI'
      have HWV := Lib.hid hwv
      clear hwv
      go_upto_region 20 with (fail)
      refine forgets_reg20 was rvk wv HWV _ _ _ _ _ _ _ _ _ _ _ _ _ _ _ _ _ _ _ _ _ _ _ _ _ _ _ _ _ _ _ _ _ _ _ _ _ _ _ _ _ _ _ _ _ _ _ _ _ _ _ _ _ _ _ _ _ _ _ _ _ _ _ _ _ _ _ _ _ _ _ _ _ _ _ _ _ _ _ _ _ _ _ _ _ _ _ _ _ _ _ _ _ _ _ _ _ _ _ _ _ _ _ _ _ _ _ _ _ _ _ _ _ _ _ _ _ _ _ _ _ _ _ _ _ _ _ _ _ _ _ _ _ _ _ _ _ _ _ _ _ _ _ _ _ (Lib.hid ?hk20)
      intro u73 u74 u75 u76
      obtain ⟨X1, hX1⟩ : ∃ X, (lookA t'.now.ch b).getD zeroB = X := ⟨_, rfl⟩
      have HX1 := Lib.hid hX1
      have HXl1 := Lib.hid (show X1.length = 256 by
        obtain ⟨a, hv⟩ := HT4.out.tv
        exact hX1 ▸ hv.p.ch.blk b)
      clear hX1
      have HSz1 := Lib.hid (show (Try.prog.info? 33).map (·.size) = some (bc X1).toArray.size by rw [List.size_toArray, bc_length, HXl1.out]; exact size32)
      have HSo1 := Lib.hid (HZS.out.trans (show 256 = (bc X1).toArray.size by rw [List.size_toArray, bc_length, HXl1.out]))
      have HO1 := Lib.hid (show (bc X1).toArray.all (·.oneCell') = true from all_oneCell_toArray (bc_one _))
      go_wp2_with fail
      refine (HT4.out.get hb).mono ?_
      rintro e w5 ⟨rfl, hg⟩
      rw [HX1.out, VK.out]
      have HT5 := Lib.hid (HT4.out.later hg)
      clear hg
      go_upto_region 22 with (first | (refine wpList_store_row rfl 33 _ _ rfl w5.heap.size (bc X1).toArray rfl rfl 33 Z (heap_alloc_last _ _) HSz1.out HSo1.out HO1.out ?_))
      have HT6 := Lib.hid (HT5.out.later (below_setRow (Below.alloc (Below.refl _ w5) (Nat.le_refl _) (.cells Z 33)) (Nat.le_refl _) (bc X1).toArray))
      generalize (w5.alloc (.cells Z 33)).setRow w5.heap.size (bc X1).toArray = W6 at *
      have HSM := Lib.hid HT6.out.small
      clear HSz1 HSo1 HO1 HXl1 HX1 HT5 HT4 HT
      go_wp2_with fail
      refine (HT6.out.changed (by omega)).mono ?_
      rintro e wr6 ⟨v6, rfl, hr, hg, _⟩
      have HRr := Lib.hid hr
      have HTr := Lib.hid (HT6.out.later hg)
      clear hr hg
      go_wp2_with fail
      refine (has_ok HRr.out (by rw [sortI_length]; have := HSM.out; omega) b).mono ?_
      rintro e w' ⟨rfl, rfl⟩
      rw [V1.out]
      have HT7 := Lib.hid HTr.out
      clear HRr HTr
      go_wp2_with fail
      refine (HT7.out.ordered (by omega)).mono ?_
      rintro e wr7 ⟨v7, rfl, hr, hg, _⟩
      have HRr := Lib.hid hr
      have HTr := Lib.hid (HT7.out.later hg)
      clear hr hg
      go_wp2_with fail
      refine (has_ok HRr.out (by rw [sortI_length]; have := HSM.out; omega) b).mono ?_
      rintro e w' ⟨rfl, rfl⟩
      rw [V2.out]
      have HT8 := Lib.hid HTr.out
      clear HRr HTr
      go_wp2_with fail
      refine (HT8.out.freed (by omega)).mono ?_
      rintro e wr8 ⟨v8, rfl, hr, hg, _⟩
      have HRr := Lib.hid hr
      have HTr := Lib.hid (HT8.out.later hg)
      clear hr hg
      go_wp2_with fail
      refine (has_ok HRr.out (by rw [sortI_length]; have := HSM.out; omega) b).mono ?_
      rintro e w' ⟨rfl, rfl⟩
      rw [V3.out]
      have HT9 := Lib.hid HTr.out
      clear HRr HTr
      go_wp2_with fail
      refine (HT9.out.revoked (by omega)).mono ?_
      rintro e wr9 ⟨v9, rfl, hr, hg, _⟩
      have HRr := Lib.hid hr
      have HTr := Lib.hid (HT9.out.later hg)
      clear hr hg
      go_wp2_with fail
      refine (has_ok HRr.out (by have := HSM.out; omega) b).mono ?_
      rintro e w' ⟨rfl, rfl⟩
      rw [V4.out]
      have HT10 := Lib.hid HTr.out
      clear HRr HTr
      go_wp2_with fail
      obtain ⟨t2, hq2, hi2, hd1, hd2, hd3, hd4⟩ := HI'.out.put h0 (fillB 2)
      have HQ2 := Lib.hid hq2
      have VL2 := Lib.hid (show decide (b ∈ keysA t2.now.ch) = true from decide_eq_true hd1)
      have VX2 := Lib.hid (show (lookA t2.now.ch b).getD zeroB = fillB 2 by rw [hd2]; rfl)
      have VF2 := Lib.hid (show sortI (keysA t2.now.fr) = [] by rw [hd3]; simp [keysA, sortI])
      have VR2 := Lib.hid hd4
      have VV2 := Lib.hid (not_void hd1)
      clear hq2 hi2 hd1 hd2 hd3 hd4 HI' HI HQ VK VL
      refine (fill_any 2 (by omega) _).mono ?_
      rintro e wf ⟨rfl, hg⟩
      have HTf := Lib.hid (HT10.out.later hg)
      have HXl2 := Lib.hid (fillB_length 2)
      obtain ⟨F2, hF2⟩ : ∃ F2, fillB 2 = F2 := ⟨_, rfl⟩
      rw [hF2] at HQ2 VX2 HXl2 ⊢
      have HF2 := Lib.hid hF2
      clear hg hF2
      have HSz2 := Lib.hid (show (Try.prog.info? 33).map (·.size) = some (bc F2).toArray.size by rw [List.size_toArray, bc_length, HXl2.out]; exact size32)
      have HSo2 := Lib.hid (HZS.out.trans (show 256 = (bc F2).toArray.size by rw [List.size_toArray, bc_length, HXl2.out]))
      have HO2 := Lib.hid (show (bc F2).toArray.all (·.oneCell') = true from all_oneCell_toArray (bc_one _))
      go_wp2_with fail
      refine (HTf.out.put_ (by omega) hs hb HXl2.out).mono ?_
      intro e w7 hp
      unfold LPost at hp
      rw [HQ2.out] at hp
      obtain ⟨rfl, hT, _⟩ := hp
      have HT7 := Lib.hid hT
      clear hT
      go_wp2_with fail
      refine (HT7.out.get hb).mono ?_
      rintro e w8 ⟨rfl, hg⟩
      rw [VX2.out, VL2.out]
      have HT8 := Lib.hid (HT7.out.later hg)
      clear hg
      go_upto_region 27 with (first | (refine wpList_store_row rfl 33 _ _ rfl w8.heap.size (bc F2).toArray rfl rfl 33 Z (heap_alloc_last _ _) HSz2.out HSo2.out HO2.out ?_))
      have HT9 := Lib.hid (HT8.out.later (below_setRow (Below.alloc (Below.refl _ w8) (Nat.le_refl _) (.cells Z 33)) (Nat.le_refl _) (bc F2).toArray))
      have HX9 := Lib.hid (show ((w8.alloc (.cells Z 33)).setRow w8.heap.size (bc F2).toArray).heap[w8.heap.size]? = some (.cells (bc F2).toArray 33) from setRow_heap _ _ _ _ _ _ (heap_alloc_last _ _))
      generalize (w8.alloc (.cells Z 33)).setRow w8.heap.size (bc F2).toArray = W9 at *
      refine forgets_reg27 B w8.heap.size _ seq F2 t2 w W9 HF2 HT9 (by omega) (Lib.hid ⟨(Array.getElem?_eq_some_iff.1 HX9.out).1, HX9.out⟩) HSz2 (Lib.hid fun w => by rw [eqlBlk F2 F2 HXl2.out HXl2.out w, decide_eq_true rfl]) VF2 VR2 VV2 _ _ _ _ _ _ _ _ _ _ _ _ _ _ _ _ _ _ _ _ _ _ _ _ _ _ _ _ _ _ _ _ _ _ _ _ _ _ _ _ _ _ _ _ _ _ _ _ _ _ _ _ _ _ _ _ _ _ _ _ _ _ _ _ _ _ _ _ _ _ _ _ _ _ _ _ _ _ _ _ _ _ _ _ _ _ _ _ _ _ _ _ _ _ _ _ _ _ _ _ _ _ _ _ _ _ _ _ _ _ _ _ _ _ _ _ _ _ _ _ _ _ _ _ _ _ _ _ _ _ _ _ _ _ _ _ _ _ _ _ _ _ _ (Lib.hid ?hk27)
      intro u122 u123 u124 u125 u126 u127 u128 u129 u130 u131 u132 u133 u134 u135 u136 u137 u138 u139 u140 u141 u142 u143 wz hz
      have HGz := Lib.hid (Grow.trans HT9.out.grow hz.grow)
      clear hz
      go_wp2_with fail
      go_ret
      exact ⟨rfl, HGz.out⟩
#print axioms forgets_walk
end Go.Proofs.Ytnogajnoghjmhaa
