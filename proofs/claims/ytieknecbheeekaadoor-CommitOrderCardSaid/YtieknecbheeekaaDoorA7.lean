/- commit.Plan: the walk. -/
import Derived.Test.YtieknecbheeekaaDoorA6b
set_option linter.unusedVariables false
set_option linter.unusedSimpArgs false
namespace Go.Proofs.YtieknecbheeekaaDoor
open Go.RowKit Go.Maps Go.Shelf
attribute [local go_sem] Oper.semAt_some
/-- what Plan answers, where it answers a plan -/
structure PlanIs (seq : Nat) (cs : List Cp) (rs : List Int) (os ps : List Int) (hd : Bool) (W : World) (v : Value) (w' : World) (hs bs : List Blk) : Prop where
  row : Row w' 36 258 v ((plan os ps hs bs).map acell)
  own : ∀ q, v.ownBlock = some q → W.heap.size ≤ q
  len : bs.length = ps.length
  places : ∀ p ∈ ps, 1 ≤ p ∧ p ≤ 255
  none : cs.length + rs.length = 0 → ps = [] ∧ hs = []
  some : cs.length + rs.length ≠ 0 → 2 ≤ ps.length ∧ hs.length = (if hd then 1 else 0)
  single : Single seq cs rs → ∀ c, cs = [c] → bs[1]? = .some c.2
def PlanPost (gr sz ni jr : Int) (seq : Nat) (cs : List Cp) (rs : List Int) (os ps : List Int) (hd : Bool) (W : World) (e : Ending) (w' : World) : Prop := ∃ (v : Value) (er : Int), e = .returned (.tuple #[v, .int .i64 er]) ∧ Grow W w' ∧ (er ≠ 0 → v = .slice none 0 0) ∧
  (er = 0 → ∃ hs bs : List Blk, PlanIs seq cs rs os ps hd W v w' hs bs) ∧
  (Geo.May gr sz ni jr → (∀ z ∈ os, 0 ≤ z ∧ z < 2 + jr + gr * sz) → (∀ p ∈ ps, 1 ≤ p ∧ p ≤ jr - 1) → Single seq cs rs → ps.length = sizeN cs.length rs.length → er = 0)
theorem placeF {p : Int} (h : 1 ≤ p ∧ p ≤ 255) : ∃ f : Nat, p = (f : Int) ∧ f ≤ 255 ∧ 1 ≤ f := ⟨p.toNat, by omega, by omega, by omega⟩
theorem neZ {n : Nat} (h : ¬ n = 0) : ((0 : Int) != (n : Int)) = true := by simp; omega
theorem bsee_nil (w : World) : BSee w (.slice none 0 0) [] := ⟨⟨none, 0, rfl, fun k c h => by simp at h⟩, by simp⟩
theorem PlanPost.no {gr sz ni jr : Int} {seq : Nat} {cs : List Cp} {rs : List Int} {os ps : List Int} {hd : Bool} {W w' : World} {er : Int} (hg : Grow W w') (h : er ≠ 0) (hw : Geo.May gr sz ni jr → (∀ z ∈ os, 0 ≤ z ∧ z < 2 + jr + gr * sz) → (∀ p ∈ ps, 1 ≤ p ∧ p ≤ jr - 1) → Single seq cs rs → ps.length = sizeN cs.length rs.length → False) : PlanPost gr sz ni jr seq cs rs os ps hd W (.returned (.tuple #[.slice none 0 0, .int .i64 er])) w' :=
  ⟨_, _, rfl, hg, fun _ => rfl, fun h0 => absurd h0 h, fun a b c d e => (hw a b c d e).elim⟩
set_option maxRecDepth 100000 in
set_option maxHeartbeats 8000000 in
theorem plan_ok {W : World} {gr sz ni jr : Int} {vc vr vo vp : Value} {cs : List Cp} {rs os ps : List Int} (hT : Tab W) (hc : CSee W vc cs) (hr : ISee W vr rs) (ho : ISee W vo os) (hp : ISee W vp ps) (hcl : cs.length ≤ 260) (hrl : rs.length ≤ 600) (hol : os.length ≤ 1000) (hpl : ps.length ≤ 1000) (hck : ∀ a n c, vc = .slice a n c → n ≤ c ∧ c ≤ maxLen) (hrk : ∀ a n c, vr = .slice a n c → n ≤ c ∧ c ≤ maxLen) (seq : Nat) (hd : Bool) :
    Calls Tryd.prog 5 #[.agg #[.int .i64 gr, .int .i64 sz, .int .i64 ni, .int .i64 jr], .agg #[.int .u32 (seq : Int), vc, vr], vo, vp, .bool hd] W (PlanPost gr sz ni jr seq cs rs os ps hd W) := by
  have HT := Lib.hid hT
  have HC := Lib.hid hc
  have HR := Lib.hid hr
  have HO := Lib.hid ho
  have HP := Lib.hid hp
  have HCL := Lib.hid hcl
  have HRL := Lib.hid hrl
  have HOL := Lib.hid hol
  have HPL := Lib.hid hpl
  have HCK := Lib.hid hck
  have HRK := Lib.hid hrk
  obtain ⟨ac, kc, hvc⟩ := hc.len
  obtain ⟨ar, kr, hvr⟩ := hr.len
  obtain ⟨ao, ko, hvo⟩ := ho.len
  obtain ⟨ap, kp, hvp⟩ := hp.len
  obtain ⟨nc, hnc⟩ : ∃ nc, nc = cs.length := ⟨_, rfl⟩
  obtain ⟨nr, hnr⟩ : ∃ nr, nr = rs.length := ⟨_, rfl⟩
  obtain ⟨no, hno⟩ : ∃ no, no = os.length := ⟨_, rfl⟩
  obtain ⟨np, hnp⟩ : ∃ np, np = ps.length := ⟨_, rfl⟩
  rw [← hnc] at hvc
  rw [← hnr] at hvr
  rw [← hno] at hvo
  rw [← hnp] at hvp
  subst hvc hvr hvo hvp
  have HNC := Lib.hid hnc
  have HNR := Lib.hid hnr
  have HNO := Lib.hid hno
  have HNP := Lib.hid hnp
  clear hT hc hr ho hp hcl hrl hol hpl hck hrk hnc hnr hno hnp
  go_enter Tryd.func5, Tryd.ntmps5
  go_upto_region 1 with fail
  have HB0 := Lib.hid (heap_one W (.cells #[.int .i64 gr, .int .i64 sz, .int .i64 ni, .int .i64 jr] 23) (.cells #[.int .u32 (seq : Int), .slice ac nc kc, .slice ar nr kr] 28))
  have HB1 := Lib.hid (heap_two W (.cells #[.int .i64 gr, .int .i64 sz, .int .i64 ni, .int .i64 jr] 23) (.cells #[.int .u32 (seq : Int), .slice ac nc kc, .slice ar nr kr] 28))
  have HG1 := Lib.hid (Grow.trans (Grow.alloc W (.cells #[.int .i64 gr, .int .i64 sz, .int .i64 ni, .int .i64 jr] 23)) (Grow.alloc _ (.cells #[.int .u32 (seq : Int), .slice ac nc kc, .slice ar nr kr] 28)))
  generalize (W.alloc (.cells #[.int .i64 gr, .int .i64 sz, .int .i64 ni, .int .i64 jr] 23)).alloc (.cells #[.int .u32 (seq : Int), .slice ac nc kc, .slice ar nr kr] 28) = w1 at *
  obtain ⟨B1, hB1⟩ : ∃ B1, B1 = W.heap.size + 1 := ⟨_, rfl⟩
  obtain ⟨B0, hB0⟩ : ∃ B0, B0 = W.heap.size := ⟨_, rfl⟩
  rw [← hB1] at HB1 ⊢
  rw [← hB0] at HB0 ⊢
  clear hB0 hB1
  have g0 := cell_at HB0.out 0
  have g1 := cell_at HB0.out 1
  have g2 := cell_at HB0.out 2
  have g3 := cell_at HB0.out 3
  by_cases hM : Geo.May gr sz ni jr
  case neg =>
    have HM := Lib.hid hM
    have HY := Lib.hid (Geo.may_no gr sz ni jr hM)
    clear hM
    go_wp2_with fail
    refine (HY.out _).mono ?_
    rintro e w2 ⟨rfl, hg2⟩
    have HG2 := Lib.hid (Grow.trans HG1.out hg2)
    clear hg2 g0 g1 g2 g3
    go_wp2_with fail
    go_ret2
    exact PlanPost.no HG2.out (by decide) (fun h => absurd h HM.out)
  have HM := Lib.hid hM
  have HY := Lib.hid (Geo.may_yes gr sz ni jr hM)
  clear hM
  go_wp2_with fail
  refine (HY.out _).mono ?_
  rintro e w2 ⟨rfl, hg2⟩
  have HG2 := Lib.hid (Grow.trans HG1.out hg2)
  have HB02 := Lib.hid ((hg2.block B0 (Array.getElem?_eq_some_iff.1 HB0.out).1).trans HB0.out)
  have HB12 := Lib.hid ((hg2.block B1 (Array.getElem?_eq_some_iff.1 HB1.out).1).trans HB1.out)
  clear hg2 g0 g1 g2 g3 HB0 HB1 HG1 HY
  have g0 := cell_at HB02.out 0
  have g1 := cell_at HB02.out 1
  have g2 := cell_at HB02.out 2
  have g3 := cell_at HB02.out 3
  have HARG := Lib.hid (argued_ok HM.out (HO.out.grow HG2.out) (HP.out.grow HG2.out) HOL.out HPL.out)
  go_wp2_with fail
  refine HARG.out.mono ?_
  intro e w3 hp
  obtain ⟨b, rfl, hg3, hps, hall⟩ := hp
  have HG3 := Lib.hid (Grow.trans HG2.out hg3)
  have HB1 := Lib.hid ((hg3.block B1 (Array.getElem?_eq_some_iff.1 HB12.out).1).trans HB12.out)
  have HALL := Lib.hid hall
  have HPS := Lib.hid hps
  clear hg3 g0 g1 g2 g3 HB02 HB12 HARG hall hps HG2
  cases b with
  | false =>
    go_wp2_with fail
    go_ret2
    exact PlanPost.no HG3.out (by decide) (fun _ h1 h2 _ _ => by have := HALL.out h1 h2; cases this)
  | true =>
  have HPJ := Lib.hid (show ∀ p ∈ ps, 1 ≤ p ∧ p ≤ 255 from fun p hp => by
    have h1 := HPS.out rfl p hp
    obtain ⟨m1, m2, m3, m4, m5, m6, m7, m8, m9, m10, m11⟩ := HM.out
    omega)
  have k0 := cell_at HB1.out 0
  have k1 := cell_at HB1.out 1
  have k2 := cell_at HB1.out 2
  clear HALL HPS
  by_cases hn0 : 0 < nc
  · have d0 : (0 : Int) < (nc : Int) := Int.natCast_pos.2 hn0
    have HPK := Lib.hid (pack_ok (HT.out.grow HG3.out) (HC.out.grow HG3.out) (HR.out.grow HG3.out) HCL.out HRL.out HCK.out HRK.out seq)
    have HNE := Lib.hid (show cs.length + rs.length ≠ 0 by rw [← HNC.out, ← HNR.out]; exact Nat.ne_of_gt (Nat.lt_of_lt_of_le hn0 (Nat.le_add_right _ _)))
    go_wp2_with fail
    refine HPK.out.mono ?_
    intro e w4 hp
    obtain ⟨v, er, rfl, hg4, hv0, hsing, hok⟩ := hp
    have HG4 := Lib.hid (Grow.trans HG3.out hg4)
    have HB4 := Lib.hid ((hg4.block B1 (Array.getElem?_eq_some_iff.1 HB1.out).1).trans HB1.out)
    have HSG := Lib.hid hsing
    clear hg4 hsing k0 k1 k2 HPK
    by_cases he : er = 0
    case neg =>
      obtain rfl := hv0 he
      have HE := Lib.hid he
      have he0 : (er != 0) = true := bne_iff_ne.2 he
      clear hok hv0 he
      go_wp2_with fail
      go_ret2
      exact PlanPost.no HG4.out HE.out (fun _ _ _ h _ => HE.out (HSG.out h))
    subst he
    obtain ⟨hseq, bl, hgi, hbl, hb2, hb255, hbs⟩ := hok rfl
    have HGI := Lib.hid hgi
    have HBL := Lib.hid hbl
    have HBS := Lib.hid hbs
    have HSQ := Lib.hid hseq
    have HB2 := Lib.hid hb2
    obtain ⟨ab, kb, hvb⟩ := BRow.len hgi.row
    obtain ⟨nb, hnb⟩ : ∃ nb, nb = bl.length := ⟨_, rfl⟩
    rw [← hnb] at hvb hb2
    subst hvb
    have HNB := Lib.hid hnb
    clear hok hgi hbl hb255 hbs hv0 hnb hseq
    by_cases hnp : nb = np
    case neg =>
      have hq : ((nb : Int) != (np : Int)) = true := bne_iff_ne.2 (fun h => hnp (Int.ofNat.inj h))
      have HQ := Lib.hid hnp
      clear hnp
      go_wp2_with fail
      go_ret2
      exact PlanPost.no HG4.out (by decide) (fun _ _ _ _ h => HQ.out (by rw [HNB.out, HBL.out, HNP.out, h]))
    subst hnp
    have HLB := Lib.hid (show bl.length = ps.length by rw [← HNB.out, HNP.out])
    have b1 : (0 : Int) < (nb : Int) := Int.natCast_pos.2 (Nat.lt_of_lt_of_le Nat.zero_lt_two hb2)
    cases hd with
    | false =>
      have HBH := Lib.hid (show BSee w4 _ [] from bsee_nil _)
      have HBB := Lib.hid (show BSee w4 _ bl from BSee.of HGI.out.row)
      have HPSRC := Lib.hid (psrc_of (HO.out.grow HG4.out) (HP.out.grow HG4.out) HBH.out HBB.out)
      go_wp2_with fail
      refine (actions_ok _ _ _ _ _ _ _ _ _ _ _ _ _).mono ?_
      rintro e w8 ⟨rfl, hw8⟩
      have HG8 := Lib.hid (show Grow w4 w8 by rw [hw8]; exact (((Grow.alloc _ _).trans (Grow.alloc _ _)).trans (Grow.alloc _ _)).trans (Grow.alloc _ _))
      rw [← hw8] at HPSRC
      clear hw8
      go_wp2_with fail
      refine (collect_ok HPSRC.out HOL.out HPL.out (by simp) HLB.out HPJ.out).mono ?_
      rintro e w9 ⟨v9, rfl, hr9, hg9, ho9⟩
      have HR9 := Lib.hid hr9
      have HG9 := Lib.hid (Grow.trans (Grow.trans HG4.out HG8.out) hg9)
      have HO9 := Lib.hid ho9
      have HS9 := Lib.hid (show W.heap.size ≤ w8.heap.size from Nat.le_trans HG4.out.size HG8.out.size)
      obtain ⟨a9, k9, hv9⟩ := Row.len hr9
      obtain ⟨n9, hn9⟩ : ∃ n9, n9 = ((plan os ps [] bl).map acell).length := ⟨_, rfl⟩
      rw [← hn9] at hv9
      subst hv9
      clear hr9 hg9 ho9 hn9
      go_wp2_with fail
      go_ret2
      exact ⟨_, 0, rfl, HG9.out, fun h => absurd rfl h, fun _ => ⟨[], bl, HR9.out, fun q hq => Nat.le_trans HS9.out (HO9.out q hq), HLB.out, HPJ.out, (fun h => absurd h HNE.out), (fun _ => ⟨by rw [← HNP.out, HNB.out]; exact HB2.out, rfl⟩), HBS.out⟩, fun _ _ _ _ _ => rfl⟩
    | true =>
      have b2 : 0 < nb := Nat.lt_of_lt_of_le Nat.zero_lt_two hb2
      go_upto_region 14 with (fail)
      obtain ⟨gp, op, p, hape, hpz, y0⟩ := (HP.out.grow HG4.out).cell2 (k := 0) (by rw [← HNP.out]; exact b2)
      subst hape
      obtain ⟨f, hf, hf1, hf2⟩ := placeF (HPJ.out p (List.mem_of_getElem? hpz))
      subst hf
      rw [Nat.add_zero] at y0
      have hX := beginB_length 4 seq f
      obtain ⟨X, hXE⟩ : ∃ X, X = beginB 4 seq f := ⟨_, rfl⟩
      rw [← hXE] at hX
      have HXL := Lib.hid hX
      obtain ⟨RX, hRX⟩ : ∃ RX, RX = (bc X).toArray := ⟨_, rfl⟩
      have HRX := Lib.hid hRX
      have HRs := Lib.hid (show RX.size = 256 by rw [hRX, List.size_toArray, bc_length, hX])
      have HR1 := Lib.hid (show RX.all (·.oneCell') = true by rw [hRX]; exact all_oneCell_toArray (bc_one _))
      have hz := zero32
      have HZ := Lib.hid zero_size
      obtain ⟨ib, hib, hx0, hx1, hx2⟩ := info_parts info32b
      obtain ⟨Z, hZ⟩ : ∃ Z, Z = (bc zeroB).toArray := ⟨_, rfl⟩
      rw [← hZ] at hz HZ hx0
      have HIB := Lib.hid hib
      have HX0 := Lib.hid hx0
      have HZE := Lib.hid hz
      have hyl : gp < w4.heap.size := World.block_lt_of_cell? _ _ y0
      refine plan_reg14 B1 gp op nb kp seq f RX Z w4 (Lib.hid b2) (Lib.hid ⟨(Array.getElem?_eq_some_iff.1 HB4.out).1, cell_at HB4.out 0⟩) (Lib.hid ⟨hyl, y0⟩) HSQ (Lib.hid hf1) (Lib.hid (by rw [hRX, hXE])) HRs HR1 HZ HZE _ _ _ _ _ _ _ _ _ _ _ _ _ _ _ _ _ _ _ _ _ _ _ _ _ _ _ _ _ _ _ _ _ _ _ _ _ _ _ _ _ _ _ _ _ _ _ _ _ _ _ _ _ _ _ _ _ _ _ _ _ _ _ _ _ _ _ _ _ _ _ _ _ _ _ _ _ _ _ _ (Lib.hid ?hreg)
      clear hz hib hx0 hZ hX hXE hRX hyl y0 hf1 hf2 hpz HB4
      intro u56 u57 u58 u59 u60 u61 u62 u63 u64 u65 w5 g hg1 hg2 hg3
      have HXG := Lib.hid (show w5.heap[g]? = some (.cells (bc X).toArray 34) by rw [← HRX.out]; exact hg2)
      have HG5 := Lib.hid (Grow.trans HG4.out (hg3.below (Nat.le_refl _) (by simp)))
      have HGI5 := Lib.hid (HGI.out.later (hg3.below (Nat.le_refl _) (by simp)))
      clear hg1 hg2 hg3
      go_upto_region 17 with (fail)
      refine plan_reg17 g X w5 HXL HXG _ _ _ _ _ _ _ _ _ _ _ _ _ _ _ _ _ _ _ _ _ _ _ _ _ _ _ _ _ _ _ _ _ _ _ _ _ _ _ _ _ _ _ _ _ _ _ _ _ _ _ _ _ _ _ _ _ _ _ _ _ _ _ _ _ _ _ _ _ _ _ _ _ _ _ _ _ _ (Lib.hid ?hreg2)
      intro u69 u70 u71 u72 a6 k6 w6 hrh hg56
      have HRH := Lib.hid hrh
      have HG56 := Lib.hid hg56
      have HG6 := Lib.hid (Grow.trans HG5.out HG56.out)
      have HGI6 := Lib.hid (HGI5.out.later HG56.out)
      clear hrh hg56 HGI5 HG5 HG56
      have HBH := Lib.hid (show BSee w6 _ [X] from BSee.of HRH.out)
      have HBB := Lib.hid (show BSee w6 _ bl from BSee.of HGI6.out.row)
      have HPSRC := Lib.hid (psrc_of (HO.out.grow HG6.out) (HP.out.grow HG6.out) HBH.out HBB.out)
      go_wp2_with fail
      refine (actions_ok _ _ _ _ _ _ _ _ _ _ _ _ _).mono ?_
      rintro e w8 ⟨rfl, hw8⟩
      have HG8 := Lib.hid (show Grow w6 w8 by rw [hw8]; exact (((Grow.alloc _ _).trans (Grow.alloc _ _)).trans (Grow.alloc _ _)).trans (Grow.alloc _ _))
      rw [← hw8] at HPSRC
      clear hw8
      go_wp2_with fail
      refine (collect_ok HPSRC.out HOL.out HPL.out (by simp) HLB.out HPJ.out).mono ?_
      rintro e w9 ⟨v9, rfl, hr9, hg9, ho9⟩
      have HR9 := Lib.hid hr9
      have HG9 := Lib.hid (Grow.trans (Grow.trans HG6.out HG8.out) hg9)
      have HO9 := Lib.hid ho9
      have HS9 := Lib.hid (show W.heap.size ≤ w8.heap.size from Nat.le_trans HG6.out.size HG8.out.size)
      obtain ⟨a9, k9, hv9⟩ := Row.len hr9
      obtain ⟨n9, hn9⟩ : ∃ n9, n9 = ((plan os ps [X] bl).map acell).length := ⟨_, rfl⟩
      rw [← hn9] at hv9
      subst hv9
      clear hr9 hg9 ho9 hn9
      go_wp2_with fail
      go_ret2
      exact ⟨_, 0, rfl, HG9.out, fun h => absurd rfl h, fun _ => ⟨[X], bl, HR9.out, fun q hq => Nat.le_trans HS9.out (HO9.out q hq), HLB.out, HPJ.out, (fun h => absurd h HNE.out), (fun _ => ⟨by rw [← HNP.out, HNB.out]; exact HB2.out, rfl⟩), HBS.out⟩, fun _ _ _ _ _ => rfl⟩
  · have hn1 : nc = 0 := Nat.eq_zero_of_not_pos hn0
    subst hn1
    clear hn0
    by_cases hr0 : 0 < nr
    · have d0 : (0 : Int) < (nr : Int) := Int.natCast_pos.2 hr0
      have HPK := Lib.hid (pack_ok (HT.out.grow HG3.out) (HC.out.grow HG3.out) (HR.out.grow HG3.out) HCL.out HRL.out HCK.out HRK.out seq)
      have HNE := Lib.hid (show cs.length + rs.length ≠ 0 by rw [← HNC.out, ← HNR.out]; exact Nat.ne_of_gt (Nat.lt_of_lt_of_le hr0 (Nat.le_add_left _ _)))
      go_wp2_with fail
      refine HPK.out.mono ?_
      intro e w4 hp
      obtain ⟨v, er, rfl, hg4, hv0, hsing, hok⟩ := hp
      have HG4 := Lib.hid (Grow.trans HG3.out hg4)
      have HB4 := Lib.hid ((hg4.block B1 (Array.getElem?_eq_some_iff.1 HB1.out).1).trans HB1.out)
      have HSG := Lib.hid hsing
      clear hg4 hsing k0 k1 k2 HPK
      by_cases he : er = 0
      case neg =>
        obtain rfl := hv0 he
        have HE := Lib.hid he
        have he0 : (er != 0) = true := bne_iff_ne.2 he
        clear hok hv0 he
        go_wp2_with fail
        go_ret2
        exact PlanPost.no HG4.out HE.out (fun _ _ _ h _ => HE.out (HSG.out h))
      subst he
      obtain ⟨hseq, bl, hgi, hbl, hb2, hb255, hbs⟩ := hok rfl
      have HGI := Lib.hid hgi
      have HBL := Lib.hid hbl
      have HBS := Lib.hid hbs
      have HSQ := Lib.hid hseq
      have HB2 := Lib.hid hb2
      obtain ⟨ab, kb, hvb⟩ := BRow.len hgi.row
      obtain ⟨nb, hnb⟩ : ∃ nb, nb = bl.length := ⟨_, rfl⟩
      rw [← hnb] at hvb hb2
      subst hvb
      have HNB := Lib.hid hnb
      clear hok hgi hbl hb255 hbs hv0 hnb hseq
      by_cases hnp : nb = np
      case neg =>
        have hq : ((nb : Int) != (np : Int)) = true := bne_iff_ne.2 (fun h => hnp (Int.ofNat.inj h))
        have HQ := Lib.hid hnp
        clear hnp
        go_wp2_with fail
        go_ret2
        exact PlanPost.no HG4.out (by decide) (fun _ _ _ _ h => HQ.out (by rw [HNB.out, HBL.out, HNP.out, h]))
      subst hnp
      have HLB := Lib.hid (show bl.length = ps.length by rw [← HNB.out, HNP.out])
      have b1 : (0 : Int) < (nb : Int) := Int.natCast_pos.2 (Nat.lt_of_lt_of_le Nat.zero_lt_two hb2)
      cases hd with
      | false =>
        have HBH := Lib.hid (show BSee w4 _ [] from bsee_nil _)
        have HBB := Lib.hid (show BSee w4 _ bl from BSee.of HGI.out.row)
        have HPSRC := Lib.hid (psrc_of (HO.out.grow HG4.out) (HP.out.grow HG4.out) HBH.out HBB.out)
        go_wp2_with fail
        refine (actions_ok _ _ _ _ _ _ _ _ _ _ _ _ _).mono ?_
        rintro e w8 ⟨rfl, hw8⟩
        have HG8 := Lib.hid (show Grow w4 w8 by rw [hw8]; exact (((Grow.alloc _ _).trans (Grow.alloc _ _)).trans (Grow.alloc _ _)).trans (Grow.alloc _ _))
        rw [← hw8] at HPSRC
        clear hw8
        go_wp2_with fail
        refine (collect_ok HPSRC.out HOL.out HPL.out (by simp) HLB.out HPJ.out).mono ?_
        rintro e w9 ⟨v9, rfl, hr9, hg9, ho9⟩
        have HR9 := Lib.hid hr9
        have HG9 := Lib.hid (Grow.trans (Grow.trans HG4.out HG8.out) hg9)
        have HO9 := Lib.hid ho9
        have HS9 := Lib.hid (show W.heap.size ≤ w8.heap.size from Nat.le_trans HG4.out.size HG8.out.size)
        obtain ⟨a9, k9, hv9⟩ := Row.len hr9
        obtain ⟨n9, hn9⟩ : ∃ n9, n9 = ((plan os ps [] bl).map acell).length := ⟨_, rfl⟩
        rw [← hn9] at hv9
        subst hv9
        clear hr9 hg9 ho9 hn9
        go_wp2_with fail
        go_ret2
        exact ⟨_, 0, rfl, HG9.out, fun h => absurd rfl h, fun _ => ⟨[], bl, HR9.out, fun q hq => Nat.le_trans HS9.out (HO9.out q hq), HLB.out, HPJ.out, (fun h => absurd h HNE.out), (fun _ => ⟨by rw [← HNP.out, HNB.out]; exact HB2.out, rfl⟩), HBS.out⟩, fun _ _ _ _ _ => rfl⟩
      | true =>
        have b2 : 0 < nb := Nat.lt_of_lt_of_le Nat.zero_lt_two hb2
        go_upto_region 14 with (fail)
        obtain ⟨gp, op, p, hape, hpz, y0⟩ := (HP.out.grow HG4.out).cell2 (k := 0) (by rw [← HNP.out]; exact b2)
        subst hape
        obtain ⟨f, hf, hf1, hf2⟩ := placeF (HPJ.out p (List.mem_of_getElem? hpz))
        subst hf
        rw [Nat.add_zero] at y0
        have hX := beginB_length 4 seq f
        obtain ⟨X, hXE⟩ : ∃ X, X = beginB 4 seq f := ⟨_, rfl⟩
        rw [← hXE] at hX
        have HXL := Lib.hid hX
        obtain ⟨RX, hRX⟩ : ∃ RX, RX = (bc X).toArray := ⟨_, rfl⟩
        have HRX := Lib.hid hRX
        have HRs := Lib.hid (show RX.size = 256 by rw [hRX, List.size_toArray, bc_length, hX])
        have HR1 := Lib.hid (show RX.all (·.oneCell') = true by rw [hRX]; exact all_oneCell_toArray (bc_one _))
        have hz := zero32
        have HZ := Lib.hid zero_size
        obtain ⟨ib, hib, hx0, hx1, hx2⟩ := info_parts info32b
        obtain ⟨Z, hZ⟩ : ∃ Z, Z = (bc zeroB).toArray := ⟨_, rfl⟩
        rw [← hZ] at hz HZ hx0
        have HIB := Lib.hid hib
        have HX0 := Lib.hid hx0
        have HZE := Lib.hid hz
        have hyl : gp < w4.heap.size := World.block_lt_of_cell? _ _ y0
        refine plan_reg14 B1 gp op nb kp seq f RX Z w4 (Lib.hid b2) (Lib.hid ⟨(Array.getElem?_eq_some_iff.1 HB4.out).1, cell_at HB4.out 0⟩) (Lib.hid ⟨hyl, y0⟩) HSQ (Lib.hid hf1) (Lib.hid (by rw [hRX, hXE])) HRs HR1 HZ HZE _ _ _ _ _ _ _ _ _ _ _ _ _ _ _ _ _ _ _ _ _ _ _ _ _ _ _ _ _ _ _ _ _ _ _ _ _ _ _ _ _ _ _ _ _ _ _ _ _ _ _ _ _ _ _ _ _ _ _ _ _ _ _ _ _ _ _ _ _ _ _ _ _ _ _ _ _ _ _ _ (Lib.hid ?hregC)
        clear hz hib hx0 hZ hX hXE hRX hyl y0 hf1 hf2 hpz HB4
        intro u56 u57 u58 u59 u60 u61 u62 u63 u64 u65 w5 g hg1 hg2 hg3
        have HXG := Lib.hid (show w5.heap[g]? = some (.cells (bc X).toArray 34) by rw [← HRX.out]; exact hg2)
        have HG5 := Lib.hid (Grow.trans HG4.out (hg3.below (Nat.le_refl _) (by simp)))
        have HGI5 := Lib.hid (HGI.out.later (hg3.below (Nat.le_refl _) (by simp)))
        clear hg1 hg2 hg3
        go_upto_region 17 with (fail)
        refine plan_reg17 g X w5 HXL HXG _ _ _ _ _ _ _ _ _ _ _ _ _ _ _ _ _ _ _ _ _ _ _ _ _ _ _ _ _ _ _ _ _ _ _ _ _ _ _ _ _ _ _ _ _ _ _ _ _ _ _ _ _ _ _ _ _ _ _ _ _ _ _ _ _ _ _ _ _ _ _ _ _ _ _ _ _ _ (Lib.hid ?hregD)
        intro u69 u70 u71 u72 a6 k6 w6 hrh hg56
        have HRH := Lib.hid hrh
        have HG56 := Lib.hid hg56
        have HG6 := Lib.hid (Grow.trans HG5.out HG56.out)
        have HGI6 := Lib.hid (HGI5.out.later HG56.out)
        clear hrh hg56 HGI5 HG5 HG56
        have HBH := Lib.hid (show BSee w6 _ [X] from BSee.of HRH.out)
        have HBB := Lib.hid (show BSee w6 _ bl from BSee.of HGI6.out.row)
        have HPSRC := Lib.hid (psrc_of (HO.out.grow HG6.out) (HP.out.grow HG6.out) HBH.out HBB.out)
        go_wp2_with fail
        refine (actions_ok _ _ _ _ _ _ _ _ _ _ _ _ _).mono ?_
        rintro e w8 ⟨rfl, hw8⟩
        have HG8 := Lib.hid (show Grow w6 w8 by rw [hw8]; exact (((Grow.alloc _ _).trans (Grow.alloc _ _)).trans (Grow.alloc _ _)).trans (Grow.alloc _ _))
        rw [← hw8] at HPSRC
        clear hw8
        go_wp2_with fail
        refine (collect_ok HPSRC.out HOL.out HPL.out (by simp) HLB.out HPJ.out).mono ?_
        rintro e w9 ⟨v9, rfl, hr9, hg9, ho9⟩
        have HR9 := Lib.hid hr9
        have HG9 := Lib.hid (Grow.trans (Grow.trans HG6.out HG8.out) hg9)
        have HO9 := Lib.hid ho9
        have HS9 := Lib.hid (show W.heap.size ≤ w8.heap.size from Nat.le_trans HG6.out.size HG8.out.size)
        obtain ⟨a9, k9, hv9⟩ := Row.len hr9
        obtain ⟨n9, hn9⟩ : ∃ n9, n9 = ((plan os ps [X] bl).map acell).length := ⟨_, rfl⟩
        rw [← hn9] at hv9
        subst hv9
        clear hr9 hg9 ho9 hn9
        go_wp2_with fail
        go_ret2
        exact ⟨_, 0, rfl, HG9.out, fun h => absurd rfl h, fun _ => ⟨[X], bl, HR9.out, fun q hq => Nat.le_trans HS9.out (HO9.out q hq), HLB.out, HPJ.out, (fun h => absurd h HNE.out), (fun _ => ⟨by rw [← HNP.out, HNB.out]; exact HB2.out, rfl⟩), HBS.out⟩, fun _ _ _ _ _ => rfl⟩
    · have hr1 : nr = 0 := Nat.eq_zero_of_not_pos hr0
      have HN0 := Lib.hid (show cs.length + rs.length = 0 by rw [← HNC.out, ← HNR.out, hr1])
      have HC0 := Lib.hid (show cs = [] from List.eq_nil_of_length_eq_zero (by rw [← HNC.out]))
      subst hr1
      clear hr0
      by_cases hnp : np = 0
      case neg =>
        have hq : ((0 : Int) != (np : Int)) = true := neZ hnp
        clear hnp
        go_wp2_with fail
        go_ret2
        exact PlanPost.no HG3.out (by decide) (fun _ _ _ h _ => by obtain ⟨_, _, c, hc, _⟩ := h; rw [HC0.out] at hc; cases hc)
      subst hnp
      have HP0 := Lib.hid (show ps = [] from List.eq_nil_of_length_eq_zero HNP.out.symm)
      have HLB := Lib.hid (show ([] : List Blk).length = ps.length by rw [HP0.out]; rfl)
      clear k0
      cases hd with
      | false =>
        have HBH := Lib.hid (show BSee w3 _ [] from bsee_nil _)
        have HBB := Lib.hid (show BSee w3 _ [] from bsee_nil _)
        have HPSRC := Lib.hid (psrc_of (HO.out.grow HG3.out) (HP.out.grow HG3.out) HBH.out HBB.out)
        go_wp2_with fail
        refine (actions_ok _ _ _ _ _ _ _ _ _ _ _ _ _).mono ?_
        rintro e w8 ⟨rfl, hw8⟩
        have HG8 := Lib.hid (show Grow w3 w8 by rw [hw8]; exact (((Grow.alloc _ _).trans (Grow.alloc _ _)).trans (Grow.alloc _ _)).trans (Grow.alloc _ _))
        rw [← hw8] at HPSRC
        clear hw8
        go_wp2_with fail
        refine (collect_ok HPSRC.out HOL.out HPL.out (by simp) HLB.out HPJ.out).mono ?_
        rintro e w9 ⟨v9, rfl, hr9, hg9, ho9⟩
        have HR9 := Lib.hid hr9
        have HG9 := Lib.hid (Grow.trans (Grow.trans HG3.out HG8.out) hg9)
        have HO9 := Lib.hid ho9
        have HS9 := Lib.hid (show W.heap.size ≤ w8.heap.size from Nat.le_trans HG3.out.size HG8.out.size)
        obtain ⟨a9, k9, hv9⟩ := Row.len hr9
        obtain ⟨n9, hn9⟩ : ∃ n9, n9 = ((plan os ps [] []).map acell).length := ⟨_, rfl⟩
        rw [← hn9] at hv9
        subst hv9
        clear hr9 hg9 ho9 hn9
        go_wp2_with fail
        go_ret2
        exact ⟨_, 0, rfl, HG9.out, fun h => absurd rfl h, fun _ => ⟨[], [], HR9.out, fun q hq => Nat.le_trans HS9.out (HO9.out q hq), HLB.out, HPJ.out, (fun _ => ⟨HP0.out, rfl⟩), (fun h => absurd HN0.out h), (fun _ c h => by rw [HC0.out] at h; cases h)⟩, fun _ _ _ _ _ => rfl⟩
      | true =>
        have HBH := Lib.hid (show BSee w3 _ [] from bsee_nil _)
        have HBB := Lib.hid (show BSee w3 _ [] from bsee_nil _)
        have HPSRC := Lib.hid (psrc_of (HO.out.grow HG3.out) (HP.out.grow HG3.out) HBH.out HBB.out)
        go_wp2_with fail
        refine (actions_ok _ _ _ _ _ _ _ _ _ _ _ _ _).mono ?_
        rintro e w8 ⟨rfl, hw8⟩
        have HG8 := Lib.hid (show Grow w3 w8 by rw [hw8]; exact (((Grow.alloc _ _).trans (Grow.alloc _ _)).trans (Grow.alloc _ _)).trans (Grow.alloc _ _))
        rw [← hw8] at HPSRC
        clear hw8
        go_wp2_with fail
        refine (collect_ok HPSRC.out HOL.out HPL.out (by simp) HLB.out HPJ.out).mono ?_
        rintro e w9 ⟨v9, rfl, hr9, hg9, ho9⟩
        have HR9 := Lib.hid hr9
        have HG9 := Lib.hid (Grow.trans (Grow.trans HG3.out HG8.out) hg9)
        have HO9 := Lib.hid ho9
        have HS9 := Lib.hid (show W.heap.size ≤ w8.heap.size from Nat.le_trans HG3.out.size HG8.out.size)
        obtain ⟨a9, k9, hv9⟩ := Row.len hr9
        obtain ⟨n9, hn9⟩ : ∃ n9, n9 = ((plan os ps [] []).map acell).length := ⟨_, rfl⟩
        rw [← hn9] at hv9
        subst hv9
        clear hr9 hg9 ho9 hn9
        go_wp2_with fail
        go_ret2
        exact ⟨_, 0, rfl, HG9.out, fun h => absurd rfl h, fun _ => ⟨[], [], HR9.out, fun q hq => Nat.le_trans HS9.out (HO9.out q hq), HLB.out, HPJ.out, (fun _ => ⟨HP0.out, rfl⟩), (fun h => absurd HN0.out h), (fun _ c h => by rw [HC0.out] at h; cases h)⟩, fun _ _ _ _ _ => rfl⟩
#print axioms plan_ok
end Go.Proofs.YtieknecbheeekaaDoor
