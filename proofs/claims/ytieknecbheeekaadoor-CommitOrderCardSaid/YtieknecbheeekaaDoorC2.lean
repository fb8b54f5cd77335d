/- CommitOrder: the walk. -/
import Derived.Test.YtieknecbheeekaaDoorC1
set_option linter.unusedVariables false
set_option linter.unusedSimpArgs false
namespace Go.Proofs.YtieknecbheeekaaDoor
open Go.RowKit Go.Maps
set_option maxRecDepth 100000 in
/-- an action of a row -/
theorem act_at {w : World} {g n cap : Nat} {l : List (Nat × Int × Blk)} (h : Row w 36 258 (.slice (some ⟨g, 0, none⟩) n cap) (l.map acell)) {k : Nat} {x : Nat × Int × Blk} (hk : l[k]? = some x) : g < w.heap.size ∧ w.cell? ⟨g, k * 258, none⟩ = some (.int .u8 (x.1 : Int)) ∧ w.cell? ⟨g, k * 258 + 1, none⟩ = some (.int .i64 x.2.1) := by
  have hr := Row.range h (i := k) (c := acell x) (by rw [List.getElem?_map, hk]; rfl)
  have h0 := hr 0 _ rfl
  have h1 := hr 1 _ rfl
  exact ⟨World.block_lt_of_cell? _ _ h0, h0, h1⟩
set_option maxRecDepth 100000 in
set_option maxHeartbeats 8000000 in
theorem order_walk {W : World} (hT : Tab W) (gr sz ni jr : Int) (seq : Nat) {cs : List Cp} {rs os ps : List Int} {ac ar ao ap : Option Addr} {kc kr ko kp : Nat} (hc : CSee W (.slice ac cs.length kc) cs) (hr : ISee W (.slice ar rs.length kr) rs) (hck : cs.length ≤ kc ∧ kc ≤ maxLen) (hrk : rs.length ≤ kr ∧ kr ≤ maxLen) (ho : ISee W (.slice ao os.length ko) os) (hp : ISee W (.slice ap ps.length kp) ps) (hd : Bool) :
    Calls Tryd.prog 3 #[.agg #[.int .i64 gr, .int .i64 sz, .int .i64 ni, .int .i64 jr], .agg #[.int .u32 (seq : Int), .slice ac cs.length kc, .slice ar rs.length kr], .slice ao os.length ko, .slice ap ps.length kp, .bool hd] W fun e w' => e = .returned (.bool true) ∧ Grow W w' := by
  have HT := Lib.hid hT
  obtain ⟨nc, hnc⟩ : ∃ nc, nc = cs.length := ⟨_, rfl⟩
  obtain ⟨nr, hnr⟩ : ∃ nr, nr = rs.length := ⟨_, rfl⟩
  obtain ⟨no, hno⟩ : ∃ no, no = os.length := ⟨_, rfl⟩
  obtain ⟨np, hnp⟩ : ∃ np, np = ps.length := ⟨_, rfl⟩
  rw [← hnc] at hc hck ⊢
  rw [← hnr] at hr hrk ⊢
  rw [← hno] at ho ⊢
  rw [← hnp] at hp ⊢
  have HC := Lib.hid hc
  have HR := Lib.hid hr
  have HO := Lib.hid ho
  have HP := Lib.hid hp
  have HCK := Lib.hid hck
  have HRK := Lib.hid hrk
  have HNC := Lib.hid hnc
  have HNR := Lib.hid hnr
  have HNO := Lib.hid hno
  have HNP := Lib.hid hnp
  clear hT hc hr ho hp hck hrk hnc hnr hno hnp
  go_enter Tryd.func3, Tryd.ntmps3
  go_upto_region 1 with fail
  have HB0 := Lib.hid (heap_one W (.cells #[.int .i64 gr, .int .i64 sz, .int .i64 ni, .int .i64 jr] 23) (.cells #[.int .u32 (seq : Int), .slice ac nc kc, .slice ar nr kr] 28))
  have HB1 := Lib.hid (heap_two W (.cells #[.int .i64 gr, .int .i64 sz, .int .i64 ni, .int .i64 jr] 23) (.cells #[.int .u32 (seq : Int), .slice ac nc kc, .slice ar nr kr] 28))
  have HG1 := Lib.hid (Grow.trans (Grow.alloc W (.cells #[.int .i64 gr, .int .i64 sz, .int .i64 ni, .int .i64 jr] 23)) (Grow.alloc _ (.cells #[.int .u32 (seq : Int), .slice ac nc kc, .slice ar nr kr] 28)))
  generalize (W.alloc (.cells #[.int .i64 gr, .int .i64 sz, .int .i64 ni, .int .i64 jr] 23)).alloc (.cells #[.int .u32 (seq : Int), .slice ac nc kc, .slice ar nr kr] 28) = w1 at *
  obtain ⟨B1, hB1⟩ : ∃ B1, B1 = W.heap.size + 1 := ⟨_, rfl⟩
  obtain ⟨B0, hB0⟩ : ∃ B0, B0 = W.heap.size := ⟨_, rfl⟩
  rw [← hB1] at HB1 ⊢
  rw [← hB0] at HB0 ⊢
  clear hB0 hB1
  have k0 := cell_at HB1.out 0
  have k1 := cell_at HB1.out 1
  have k2 := cell_at HB1.out 2
  by_cases q1 : (260 : Int) < (nc : Int)
  case pos =>
    go_wp2
    go_ret
    exact ⟨rfl, HG1.out⟩
  by_cases q2 : (600 : Int) < (nr : Int)
  case pos =>
    go_wp2
    go_ret
    exact ⟨rfl, HG1.out⟩
  by_cases q3 : (1000 : Int) < (no : Int)
  case pos =>
    go_wp2
    go_ret
    exact ⟨rfl, HG1.out⟩
  by_cases q4 : (1000 : Int) < (np : Int)
  case pos =>
    go_wp2
    go_ret
    exact ⟨rfl, HG1.out⟩
  have HLC := Lib.hid (show cs.length ≤ 260 by have := HNC.out; omega)
  have HLR := Lib.hid (show rs.length ≤ 600 by have := HNR.out; omega)
  have HLO := Lib.hid (show os.length ≤ 1000 by have := HNO.out; omega)
  have HLP := Lib.hid (show ps.length ≤ 1000 by have := HNP.out; omega)
  have g0 := cell_at HB0.out 0
  have g1 := cell_at HB0.out 1
  have g2 := cell_at HB0.out 2
  have g3 := cell_at HB0.out 3
  go_wp2_with fail
  refine (plan_ok (HT.out.grow HG1.out) (HC.out.grow HG1.out) (HR.out.grow HG1.out) (HO.out.grow HG1.out) (HP.out.grow HG1.out) HLC.out HLR.out HLO.out HLP.out (fun a n c h => by cases h; exact HCK.out) (fun a n c h => by cases h; exact HRK.out) seq hd).mono ?_
  intro e w2 hp
  obtain ⟨v, er, rfl, hg2, hv0, hok, _⟩ := hp
  have HG2 := Lib.hid (Grow.trans HG1.out hg2)
  have HB2 := Lib.hid ((hg2.block B1 (Array.getElem?_eq_some_iff.1 HB1.out).1).trans HB1.out)
  clear hg2 k0 k1 k2 g0 g1 g2 g3 q1 q2 q3 q4
  by_cases he : er = 0
  case neg =>
    obtain rfl := hv0 he
    have he0 : (er != 0) = true := bne_iff_ne.2 he
    clear hok hv0 he
    go_wp2_with fail
    go_ret
    exact ⟨rfl, HG2.out⟩
  subst he
  obtain ⟨hs, bs, hpl⟩ := hok rfl
  have HPL := Lib.hid hpl
  have hrow := hpl.row
  have hle := plan_length (os := os) (hs := hs) hpl.len
  clear hok hv0 hpl
  obtain ⟨PL, hPL⟩ : ∃ PL, PL = plan os ps hs bs := ⟨_, rfl⟩
  rw [← hPL] at hrow hle
  have HPE := Lib.hid hPL
  obtain ⟨g, cap, hv, hgl, hcl, _⟩ := Row.open_ hrow (by rw [List.length_map, hle]; omega)
  rw [List.length_map] at hv hcl
  obtain ⟨LN, hLN⟩ : ∃ LN, LN = PL.length := ⟨_, rfl⟩
  rw [← hLN] at hv hcl hle
  subst hv
  have HROW := Lib.hid hrow
  have HLE := Lib.hid hle
  have HCL := Lib.hid hcl
  have HLN := Lib.hid hLN
  have HNL := Lib.hid (show no < LN by have := HLE.out; have := HNO.out; omega)
  clear hrow hle hcl hLN hPL hgl
  go_wp2_with fail
  go_loopw [13] (fun t13 wr => ∃ i : Nat, i ≤ no ∧ t13 = .int .i64 (i : Int) ∧ Hid (Grow w2 wr)) (fun t13 _ => no - (intOf t13).toNat)
  case atStart => exact ⟨0, by omega, rfl, Lib.hid (Grow.refl _)⟩
  case round =>
    obtain ⟨i, hi, rfl, HG⟩ := hrel
    by_cases hlt : i < no
    · obtain ⟨go_, oo, z, hae, hz, y0⟩ := (HO.out.grow (HG2.out.trans HG.out)).cell2 (k := i) (by rw [← HNO.out]; exact hlt)
      subst hae
      have b1 : (i : Int) < (no : Int) := by omega
      have b2 : (i : Int) ≤ 1000 := by have := HLO.out; have := HNO.out; omega
      have b3 : (0 : Int) ≤ (i : Int) := by omega
      have HACT := Lib.hid (act_at (HROW.out.kept (Touch.of_below (S := []) HG.out) (by simp)) (k := i) (x := (1, z, zeroB)) (by rw [HPE.out]; exact plan_os hz))
      have HY := Lib.hid y0
      have HIL := Lib.hid (show i < LN ∧ i < no from ⟨Nat.lt_trans hlt HNL.out, hlt⟩)
      clear y0 hz
      go_upto_region 9 with (fail)
      refine ord_reg9 g LN cap go_ oo no ko i z wr HIL (Lib.hid ⟨HACT.out.1, HACT.out.2.1⟩) (Lib.hid ⟨HACT.out.1, HACT.out.2.2⟩) (Lib.hid ⟨World.block_lt_of_cell? _ _ HY.out, HY.out⟩) _ _ _ _ _ _ _ _ _ _ _ _ _ _ _ _ _ _ _ _ _ _ _ _ _ _ _ _ _ _ _ _ _ _ _ _ _ _ _ _ _ _ _ _ _ _ _ _ _ _ _ _ _ _ _ _ _ _ _ _ _ _ _ _ _ _ _ _ _ _ _ _ _ _ _ _ _ _ _ _ _ _ _ _ _ _ _ _ _ _ _ _ _ _ _ _ _ _ _ _ _ _ _ _ _ _ _ _ _ _ _ _ _ _ _ _ _ _ _ _ _ _ _ _ _ _ _ _ _ _ _ _ _ _ _ _ _ _ _ _ _ _ _ _ _ _ _ _ _ _ _ _ _ _ _ _ _ _ _ _ _ _ _ _ _ _ _ _ _ _ _ _ _ _ _ _ _ _ _ _ _ _ _ _ _ _ _ _ _ _ _ _ _ _ _ _ (Lib.hid ?h9)
      intro u57 u58 u59 u60 u61 u62 u63 u64 u65 u66 u67 u68 u69 u70 u71 u72 u73 u74 u75 u76 u77 u78 u79 w4 hg4
      have HG4 := Lib.hid (Grow.trans HG.out hg4)
      clear hg4
      go_wp2_with fail
      go_roundw
      case rel => exact ⟨i + 1, by have := HIL.out.2; omega, by go_num, HG4⟩
      case measure => have := HIL.out.2; simp [intOf]; omega
    · obtain rfl : i = no := by omega
      clear hlt hi
      have HB3 := Lib.hid ((HG.out.block B1 (Array.getElem?_eq_some_iff.1 HB2.out).1).trans HB2.out)
      have HROW3 := Lib.hid (HROW.out.kept (Touch.of_below (S := []) HG.out) (by simp))
      have HG3 := Lib.hid (Grow.trans HG2.out HG.out)
      have k0 := cell_at HB3.out 0
      have k1 := cell_at HB3.out 1
      have k2 := cell_at HB3.out 2
      clear HG HROW HB2
      have s1 : (i : Int) ≤ (LN : Int) := by have := HNL.out; omega
      have s2 : (LN : Int) ≤ (cap : Int) := by have := HCL.out; omega
      have s3 : i < cap := by have := HCL.out; have := HNL.out; omega
      obtain ⟨m, hm⟩ : ∃ m, m = LN - i := ⟨_, rfl⟩
      have HM := Lib.hid hm
      have z1 : (nc : Int) ≤ 260 := by have := HLC.out; have := HNC.out; omega
      have z2 : (nr : Int) ≤ 600 := by have := HLR.out; have := HNR.out; omega
      have z3 : (0 : Int) ≤ (nc : Int) := by omega
      have z4 : (0 : Int) ≤ (nr : Int) := by omega
      go_upto_region 12 with (fail)
      by_cases hz : nc + nr = 0
      case pos =>
        obtain ⟨hn1, hn2⟩ : nc = 0 ∧ nr = 0 := ⟨by omega, by omega⟩
        subst hn1 hn2
        obtain ⟨hps, hhs⟩ := HPL.out.none (by rw [← HNC.out, ← HNR.out])
        have hbs : bs = [] := List.eq_nil_of_length_eq_zero (by rw [HPL.out.len, hps]; rfl)
        have HM1 := Lib.hid (show LN - i = 1 by have h1 := HLE.out; rw [hps, hhs, hbs] at h1; have h2 := HNO.out; simp [lasts] at h1; omega)
        have HACT := Lib.hid (act_at HROW3.out (k := i) (x := (3, 0, zeroB)) (by rw [HPE.out, hps, hhs, hbs, HNO.out]; have := plan_flush (os := os) (ps := []) (hs := []) (bs := []) rfl; simpa using this))
        have HP0 := Lib.hid (show np = 0 by rw [HNP.out, hps]; rfl)
        have a0 := HACT.out.2.1
        rw [HM1.out]
        have hp0 := HP0.out
        subst hp0
        clear hps hhs hbs hz
        go_wp2
        go_ret
        exact ⟨rfl, HG3.out⟩
      have hzz : ((nc : Int) + (nr : Int) == 0) = false := by simp; omega
      have HSO := Lib.hid (HPL.out.some (by rw [← HNC.out, ← HNR.out]; exact hz))
      clear hz
      obtain ⟨nh, hnh⟩ : ∃ nh, nh = hs.length := ⟨_, rfl⟩
      have HNH := Lib.hid hnh
      have h2 : 2 ≤ np := by rw [HNP.out]; exact HSO.out.1
      have HNP2 := Lib.hid h2
      have hlast : (lasts ps bs).length = 2 := by
        have hpp : ps.length - 1 < ps.length := by rw [← HNP.out]; omega
        rw [zip_last HPL.out.len (by rw [← HNP.out]; omega) (List.getElem?_eq_getElem hpp) (List.getElem?_eq_getElem (by rw [HPL.out.len]; exact hpp))]
        rfl
      have HLM := Lib.hid (show LN - i = nh + (np + 2) by have h1 := HLE.out; rw [hlast, ← HNO.out, ← hnh, ← HNP.out] at h1; omega)
      clear hnh hlast h2
      rw [HLM.out]
      have HCC := Lib.hid (show nh + (np + 2) ≤ cap - i by have := HLM.out; have := HCL.out; omega)
      obtain ⟨C1, hC1⟩ : ∃ C1, C1 = cap - i := ⟨_, rfl⟩
      rw [← hC1] at HCC ⊢
      have HC1 := Lib.hid hC1
      clear hC1 s1 s2 s3 hm
      cases hd with
      | false =>
        have hn0 : nh = 0 := HNH.out.trans HSO.out.2
        subst hn0
        obtain ⟨LM, hLM⟩ : ∃ LM, LM = np + 2 := ⟨_, rfl⟩
        rw [Nat.zero_add, ← hLM]
        have HLM2 := Lib.hid hLM
        have e1 : ((LM : Int) != (np : Int) + 2) = false := by simp; omega
        have e2 : (2 : Int) ≤ (np : Int) := by have := HNP2.out; omega
        have e3 : (np : Int) ≤ 1000 := by have := HLP.out; have := HNP.out; omega
        clear hLM
        have HAT := Lib.hid (show ∀ (j : Nat) (x : Nat × Int × Blk), PL[os.length + hs.length + j]? = some x → g < wr.heap.size ∧ wr.cell? ⟨g, i * 258 + j * 258, none⟩ = some (.int .u8 (x.1 : Int)) ∧ wr.cell? ⟨g, i * 258 + j * 258 + 1, none⟩ = some (.int .i64 x.2.1) from fun j x hx => by
          have h := act_at HROW3.out hx
          have h1 := HNO.out
          have h2 := HNH.out
          rw [show (os.length + hs.length + j) * 258 = i * 258 + j * 258 by omega] at h
          exact h)
        have HPP := Lib.hid HPL.out.places
        have HLB := Lib.hid HPL.out.len
        have e4 : (LM : Int) ≤ 1002 := by have := HLM2.out; omega
        have e5 : (4 : Int) ≤ (LM : Int) := by have := HLM2.out; omega
        go_wp2_with fail
        go_loopw [14] (fun t14 wq => ∃ j : Nat, j ≤ LM ∧ t14 = .int .i64 (j : Int) ∧ Hid (Grow wr wq)) (fun t14 _ => LM - (intOf t14).toNat)
        case atStart => exact ⟨0, by omega, rfl, Lib.hid (Grow.refl _)⟩
        case round =>
          obtain ⟨j, hj, rfl, HG⟩ := hrel
          by_cases hlt : j < LM
          · have b1 : (j : Int) < (LM : Int) := by omega
            have b0 : (0 : Int) ≤ (j : Int) := by omega
            have HJL := Lib.hid hlt
            by_cases c1 : j + 1 = np ∨ j = np + 1
            · have HPJ := Lib.hid (show PL[os.length + hs.length + j]? = some (3, 0, zeroB) by
                rcases c1 with c | c
                · rw [HPE.out, show j = ps.length - 1 by have := HNP.out; omega]; exact plan_flush HLB.out
                · have hpp : ps.length - 1 < ps.length := by have := HNP.out; have := HNP2.out; omega
                  rw [HPE.out, show os.length + hs.length + j = os.length + hs.length + (ps.length - 1) + (1 + 1) by have := HNP.out; have := HNP2.out; omega, plan_behind HLB.out 1, zip_last HLB.out (by omega) (List.getElem?_eq_getElem hpp) (List.getElem?_eq_getElem (by rw [HLB.out]; exact hpp))]
                  rfl)
              have HK := Lib.hid (HAT.out j _ HPJ.out)
              have HCE := Lib.hid ((HG.out.cell (p := ⟨g, i * 258 + j * 258, none⟩) HK.out.1).trans HK.out.2.1)
              have HC1J := Lib.hid c1
              have d1 : ((j : Int) == (LM : Int) - 2) = false := by have := HLM2.out; simp; omega
              rcases c1 with c | c
              · have d2 : ((j : Int) == (LM : Int) - 3) = true := by have := HLM2.out; simp; omega
                clear c
                go_upto_region 27 with (fail)
                refine ord_reg27a g (i * 258) LM C1 j _ HJL (Lib.hid ⟨Nat.lt_of_lt_of_le HK.out.1 HG.out.size, HCE.out⟩) _ _ _ _ _ _ _ _ _ _ _ _ _ _ _ _ _ _ _ _ _ _ _ _ _ _ _ _ _ _ _ _ _ _ _ _ _ _ _ _ _ _ _ _ _ _ _ _ _ _ _ _ _ _ _ _ _ _ _ _ _ _ _ _ _ _ _ _ _ _ _ _ _ _ _ _ _ _ _ _ _ _ _ _ _ _ _ _ _ _ _ _ _ _ _ _ _ _ _ _ _ _ _ _ _ _ _ _ _ _ _ _ _ _ _ _ _ _ _ _ _ _ _ _ _ _ _ _ _ _ _ _ _ _ _ _ _ _ _ _ _ _ _ _ _ _ _ _ _ _ _ _ _ _ _ _ _ _ _ _ _ _ _ _ _ _ _ _ _ _ _ _ _ _ _ _ _ _ _ _ _ _ _ _ _ _ _ _ _ _ _ _ _ _ _ _ (Lib.hid ?hr1)
                intro u165 u166 u167 u168 u169 u170 u171 u172 u173 u174 u175 u176 u177 u178 u179 u180 u181 u182 u183 u184 u185 u186 u187 u188 u189 u190 u191 u192 u193 u194 u195 u196 w7 hg7
                have HG7 := Lib.hid (Grow.trans HG.out hg7)
                clear hg7
                go_wp2_with fail
                go_roundw
                case rel => exact ⟨j + 1, by have := HJL.out; omega, by go_num, HG7⟩
                case measure => have := HJL.out; simp [intOf]; omega
              · have d2 : ((j : Int) == (LM : Int) - 3) = false := by have := HLM2.out; simp; omega
                have d3 : ((j : Int) == (LM : Int) - 1) = true := by have := HLM2.out; simp; omega
                clear c
                go_upto_region 27 with (fail)
                refine ord_reg27a g (i * 258) LM C1 j _ HJL (Lib.hid ⟨Nat.lt_of_lt_of_le HK.out.1 HG.out.size, HCE.out⟩) _ _ _ _ _ _ _ _ _ _ _ _ _ _ _ _ _ _ _ _ _ _ _ _ _ _ _ _ _ _ _ _ _ _ _ _ _ _ _ _ _ _ _ _ _ _ _ _ _ _ _ _ _ _ _ _ _ _ _ _ _ _ _ _ _ _ _ _ _ _ _ _ _ _ _ _ _ _ _ _ _ _ _ _ _ _ _ _ _ _ _ _ _ _ _ _ _ _ _ _ _ _ _ _ _ _ _ _ _ _ _ _ _ _ _ _ _ _ _ _ _ _ _ _ _ _ _ _ _ _ _ _ _ _ _ _ _ _ _ _ _ _ _ _ _ _ _ _ _ _ _ _ _ _ _ _ _ _ _ _ _ _ _ _ _ _ _ _ _ _ _ _ _ _ _ _ _ _ _ _ _ _ _ _ _ _ _ _ _ _ _ _ _ _ _ _ (Lib.hid ?hr2)
                intro u165 u166 u167 u168 u169 u170 u171 u172 u173 u174 u175 u176 u177 u178 u179 u180 u181 u182 u183 u184 u185 u186 u187 u188 u189 u190 u191 u192 u193 u194 u195 u196 w7 hg7
                have HG7 := Lib.hid (Grow.trans HG.out hg7)
                clear hg7
                go_wp2_with fail
                go_roundw
                case rel => exact ⟨j + 1, by have := HJL.out; omega, by go_num, HG7⟩
                case measure => have := HJL.out; simp [intOf]; omega
            · obtain ⟨q, hq, hqn⟩ : ∃ q, (q = j ∧ j + 1 < np ∨ j = np ∧ q + 1 = np) ∧ q < np := by
                have h1 := HLM2.out
                have h2 := HNP2.out
                by_cases c2 : j + 1 < np
                · exact ⟨j, .inl ⟨rfl, c2⟩, by omega⟩
                · exact ⟨np - 1, .inr ⟨by omega, by omega⟩, by omega⟩
              obtain ⟨gp, op, p, hape, hpz, y0⟩ := (HP.out.grow (HG3.out.trans HG.out)).cell2 (k := q) (by rw [← HNP.out]; exact hqn)
              obtain ⟨x, hx⟩ : ∃ x, bs[q]? = some x := ⟨bs[q]'(by rw [HLB.out, ← HNP.out]; exact hqn), by simp⟩
              subst hape
              have HY := Lib.hid y0
              have HPV := Lib.hid (HPP.out p (List.mem_of_getElem? hpz))
              have HPJ := Lib.hid (show PL[os.length + hs.length + j]? = some (2, 2 + p, x) by
                have h1 := HNP.out
                have h2 := HNP2.out
                rcases hq with ⟨rfl, c⟩ | ⟨c, c'⟩
                · rw [HPE.out]; exact plan_firsts HLB.out (by omega) hpz hx
                · rw [HPE.out, show os.length + hs.length + j = os.length + hs.length + (ps.length - 1) + (0 + 1) by omega, plan_behind HLB.out 0, zip_last HLB.out (by omega) (by rw [show ps.length - 1 = q by omega]; exact hpz) (by rw [show ps.length - 1 = q by omega]; exact hx)]
                  rfl)
              have HK := Lib.hid (HAT.out j _ HPJ.out)
              have HCE := Lib.hid ((HG.out.cell (p := ⟨g, i * 258 + j * 258, none⟩) HK.out.1).trans HK.out.2.1)
              have HCF := Lib.hid ((HG.out.cell (p := ⟨g, i * 258 + j * 258 + 1, none⟩) HK.out.1).trans HK.out.2.2)
              have HQN := Lib.hid hqn
              have d2 : ((j : Int) == (LM : Int) - 3) = false := by have := HLM2.out; simp; omega
              have d3 : ((j : Int) == (LM : Int) - 1) = false := by have := HLM2.out; simp; omega
              rcases hq with ⟨hqj, c⟩ | ⟨c, c'⟩
              · have d1 : ((j : Int) == (LM : Int) - 2) = false := by have := HLM2.out; simp; omega
                clear c hpz hx y0 hqn c1
                subst hqj
                go_upto_region 27 with (fail)
                refine ord_reg27b g (i * 258) LM C1 gp op np kp q q p _ (Lib.hid ⟨HJL.out, HQN.out⟩) HPV (Lib.hid ⟨Nat.lt_of_lt_of_le HK.out.1 HG.out.size, HCE.out⟩) (Lib.hid ⟨Nat.lt_of_lt_of_le HK.out.1 HG.out.size, HCF.out⟩) (Lib.hid ⟨World.block_lt_of_cell? _ _ HY.out, HY.out⟩) _ _ _ _ _ _ _ _ _ _ _ _ _ _ _ _ _ _ _ _ _ _ _ _ _ _ _ _ _ _ _ _ _ _ _ _ _ _ _ _ _ _ _ _ _ _ _ _ _ _ _ _ _ _ _ _ _ _ _ _ _ _ _ _ _ _ _ _ _ _ _ _ _ _ _ _ _ _ _ _ _ _ _ _ _ _ _ _ _ _ _ _ _ _ _ _ _ _ _ _ _ _ _ _ _ _ _ _ _ _ _ _ _ _ _ _ _ _ _ _ _ _ _ _ _ _ _ _ _ _ _ _ _ _ _ _ _ _ _ _ _ _ _ _ _ _ _ _ _ _ _ _ _ _ _ _ _ _ _ _ _ _ _ _ _ _ _ _ _ _ _ _ _ _ _ _ _ _ _ _ _ _ _ _ _ _ _ _ _ _ _ _ _ _ (Lib.hid ?hr3)
                intro u165 u166 u167 u168 u169 u170 u171 u172 u173 u174 u175 u176 u177 u178 u179 u180 u181 u182 u183 u184 u185 u186 u187 u188 u189 u190 u191 u192 u193 u194 u195 u196 w7 hg7
                have HG7 := Lib.hid (Grow.trans HG.out hg7)
                clear hg7
                go_wp2_with fail
                go_roundw
                case rel => exact ⟨q + 1, by have := HJL.out; omega, by go_num, HG7⟩
                case measure => have := HJL.out; simp [intOf]; omega
              · have d1 : ((j : Int) == (LM : Int) - 2) = true := by have := HLM2.out; simp; omega
                have HJQ := Lib.hid (show (j : Int) - 1 = (q : Int) by omega)
                clear c c' hpz hx y0 hqn c1
                go_upto_region 27 with (fail)
                rw [HJQ.out]
                refine ord_reg27b g (i * 258) LM C1 gp op np kp j q p _ (Lib.hid ⟨HJL.out, HQN.out⟩) HPV (Lib.hid ⟨Nat.lt_of_lt_of_le HK.out.1 HG.out.size, HCE.out⟩) (Lib.hid ⟨Nat.lt_of_lt_of_le HK.out.1 HG.out.size, HCF.out⟩) (Lib.hid ⟨World.block_lt_of_cell? _ _ HY.out, HY.out⟩) _ _ _ _ _ _ _ _ _ _ _ _ _ _ _ _ _ _ _ _ _ _ _ _ _ _ _ _ _ _ _ _ _ _ _ _ _ _ _ _ _ _ _ _ _ _ _ _ _ _ _ _ _ _ _ _ _ _ _ _ _ _ _ _ _ _ _ _ _ _ _ _ _ _ _ _ _ _ _ _ _ _ _ _ _ _ _ _ _ _ _ _ _ _ _ _ _ _ _ _ _ _ _ _ _ _ _ _ _ _ _ _ _ _ _ _ _ _ _ _ _ _ _ _ _ _ _ _ _ _ _ _ _ _ _ _ _ _ _ _ _ _ _ _ _ _ _ _ _ _ _ _ _ _ _ _ _ _ _ _ _ _ _ _ _ _ _ _ _ _ _ _ _ _ _ _ _ _ _ _ _ _ _ _ _ _ _ _ _ _ _ _ _ _ (Lib.hid ?hr4)
                intro u165 u166 u167 u168 u169 u170 u171 u172 u173 u174 u175 u176 u177 u178 u179 u180 u181 u182 u183 u184 u185 u186 u187 u188 u189 u190 u191 u192 u193 u194 u195 u196 w7 hg7
                have HG7 := Lib.hid (Grow.trans HG.out hg7)
                clear hg7
                go_wp2_with fail
                go_roundw
                case rel => exact ⟨j + 1, by have := HJL.out; omega, by go_num, HG7⟩
                case measure => have := HJL.out; simp [intOf]; omega
          · obtain rfl : j = LM := by omega
            have HGE := Lib.hid (Grow.trans HG3.out HG.out)
            go_wp2
            go_ret
            exact ⟨rfl, HGE.out⟩
      | true =>
        have hn0 : nh = 1 := HNH.out.trans HSO.out.2
        subst hn0
        obtain ⟨x0, hx0⟩ : ∃ x0, hs = [x0] := by
          have h1 := HNH.out
          cases hs with
          | nil => simp at h1
          | cons a t => cases t with
            | nil => exact ⟨a, rfl⟩
            | cons b t => simp at h1
        have HACT := Lib.hid (act_at HROW3.out (k := i) (x := (2, 2, x0)) (by rw [HPE.out, HNO.out]; have := plan_hs (os := os) (ps := ps) (hs := hs) (bs := bs) (k := 0) (x := x0) (by rw [hx0]; rfl); rwa [Nat.add_zero] at this))
        have a0 := HACT.out.2.1
        have a1 := HACT.out.2.2
        obtain ⟨NM, hNM⟩ : ∃ NM, NM = 1 + (np + 2) := ⟨_, rfl⟩
        rw [← hNM] at HCC ⊢
        have HNM := Lib.hid hNM
        have n1 : (1 : Int) ≤ (NM : Int) := by omega
        have n2 : (NM : Int) ≤ (C1 : Int) := by have := HCC.out; omega
        have n3 : 1 < C1 := by have := HCC.out; omega
        have n4 : ((NM : Int) == 0) = false := by simp; omega
        have n5 : 0 < NM := by omega
        have n6 : (0 : Int) < (NM : Int) := by omega
        clear hNM hx0
        go_upto_region 18 with (fail)
        clear a0 a1 n1 n2 n3 n4 n5 n6
        obtain ⟨LM, hLM⟩ : ∃ LM, LM = np + 2 := ⟨_, rfl⟩
        rw [show NM - 1 = LM by have := HNM.out; omega]
        obtain ⟨C2, hC2⟩ : ∃ C2, C2 = C1 - 1 := ⟨_, rfl⟩
        rw [← hC2]
        have HLM2 := Lib.hid hLM
        have e1 : ((LM : Int) != (np : Int) + 2) = false := by simp; omega
        have e2 : (2 : Int) ≤ (np : Int) := by have := HNP2.out; omega
        have e3 : (np : Int) ≤ 1000 := by have := HLP.out; have := HNP.out; omega
        clear hLM hC2
        have HAT := Lib.hid (show ∀ (j : Nat) (x : Nat × Int × Blk), PL[os.length + hs.length + j]? = some x → g < wr.heap.size ∧ wr.cell? ⟨g, i * 258 + 258 + j * 258, none⟩ = some (.int .u8 (x.1 : Int)) ∧ wr.cell? ⟨g, i * 258 + 258 + j * 258 + 1, none⟩ = some (.int .i64 x.2.1) from fun j x hx => by
          have h := act_at HROW3.out hx
          have h1 := HNO.out
          have h2 := HNH.out
          rw [show (os.length + hs.length + j) * 258 = i * 258 + 258 + j * 258 by omega] at h
          exact h)
        have HPP := Lib.hid HPL.out.places
        have HLB := Lib.hid HPL.out.len
        have e4 : (LM : Int) ≤ 1002 := by have := HLM2.out; omega
        have e5 : (4 : Int) ≤ (LM : Int) := by have := HLM2.out; omega
        go_wp2_with fail
        go_loopw [14] (fun t14 wq => ∃ j : Nat, j ≤ LM ∧ t14 = .int .i64 (j : Int) ∧ Hid (Grow wr wq)) (fun t14 _ => LM - (intOf t14).toNat)
        case atStart => exact ⟨0, by omega, rfl, Lib.hid (Grow.refl _)⟩
        case round =>
          obtain ⟨j, hj, rfl, HG⟩ := hrel
          by_cases hlt : j < LM
          · have b1 : (j : Int) < (LM : Int) := by omega
            have b0 : (0 : Int) ≤ (j : Int) := by omega
            have HJL := Lib.hid hlt
            by_cases c1 : j + 1 = np ∨ j = np + 1
            · have HPJ := Lib.hid (show PL[os.length + hs.length + j]? = some (3, 0, zeroB) by
                rcases c1 with c | c
                · rw [HPE.out, show j = ps.length - 1 by have := HNP.out; omega]; exact plan_flush HLB.out
                · have hpp : ps.length - 1 < ps.length := by have := HNP.out; have := HNP2.out; omega
                  rw [HPE.out, show os.length + hs.length + j = os.length + hs.length + (ps.length - 1) + (1 + 1) by have := HNP.out; have := HNP2.out; omega, plan_behind HLB.out 1, zip_last HLB.out (by omega) (List.getElem?_eq_getElem hpp) (List.getElem?_eq_getElem (by rw [HLB.out]; exact hpp))]
                  rfl)
              have HK := Lib.hid (HAT.out j _ HPJ.out)
              have HCE := Lib.hid ((HG.out.cell (p := ⟨g, i * 258 + 258 + j * 258, none⟩) HK.out.1).trans HK.out.2.1)
              have HC1J := Lib.hid c1
              have d1 : ((j : Int) == (LM : Int) - 2) = false := by have := HLM2.out; simp; omega
              rcases c1 with c | c
              · have d2 : ((j : Int) == (LM : Int) - 3) = true := by have := HLM2.out; simp; omega
                clear c
                go_upto_region 27 with (fail)
                refine ord_reg27a g (i * 258 + 258) LM C2 j _ HJL (Lib.hid ⟨Nat.lt_of_lt_of_le HK.out.1 HG.out.size, HCE.out⟩) _ _ _ _ _ _ _ _ _ _ _ _ _ _ _ _ _ _ _ _ _ _ _ _ _ _ _ _ _ _ _ _ _ _ _ _ _ _ _ _ _ _ _ _ _ _ _ _ _ _ _ _ _ _ _ _ _ _ _ _ _ _ _ _ _ _ _ _ _ _ _ _ _ _ _ _ _ _ _ _ _ _ _ _ _ _ _ _ _ _ _ _ _ _ _ _ _ _ _ _ _ _ _ _ _ _ _ _ _ _ _ _ _ _ _ _ _ _ _ _ _ _ _ _ _ _ _ _ _ _ _ _ _ _ _ _ _ _ _ _ _ _ _ _ _ _ _ _ _ _ _ _ _ _ _ _ _ _ _ _ _ _ _ _ _ _ _ _ _ _ _ _ _ _ _ _ _ _ _ _ _ _ _ _ _ _ _ _ _ _ _ _ _ _ _ _ (Lib.hid ?hr5)
                intro u165 u166 u167 u168 u169 u170 u171 u172 u173 u174 u175 u176 u177 u178 u179 u180 u181 u182 u183 u184 u185 u186 u187 u188 u189 u190 u191 u192 u193 u194 u195 u196 w7 hg7
                have HG7 := Lib.hid (Grow.trans HG.out hg7)
                clear hg7
                go_wp2_with fail
                go_roundw
                case rel => exact ⟨j + 1, by have := HJL.out; omega, by go_num, HG7⟩
                case measure => have := HJL.out; simp [intOf]; omega
              · have d2 : ((j : Int) == (LM : Int) - 3) = false := by have := HLM2.out; simp; omega
                have d3 : ((j : Int) == (LM : Int) - 1) = true := by have := HLM2.out; simp; omega
                clear c
                go_upto_region 27 with (fail)
                refine ord_reg27a g (i * 258 + 258) LM C2 j _ HJL (Lib.hid ⟨Nat.lt_of_lt_of_le HK.out.1 HG.out.size, HCE.out⟩) _ _ _ _ _ _ _ _ _ _ _ _ _ _ _ _ _ _ _ _ _ _ _ _ _ _ _ _ _ _ _ _ _ _ _ _ _ _ _ _ _ _ _ _ _ _ _ _ _ _ _ _ _ _ _ _ _ _ _ _ _ _ _ _ _ _ _ _ _ _ _ _ _ _ _ _ _ _ _ _ _ _ _ _ _ _ _ _ _ _ _ _ _ _ _ _ _ _ _ _ _ _ _ _ _ _ _ _ _ _ _ _ _ _ _ _ _ _ _ _ _ _ _ _ _ _ _ _ _ _ _ _ _ _ _ _ _ _ _ _ _ _ _ _ _ _ _ _ _ _ _ _ _ _ _ _ _ _ _ _ _ _ _ _ _ _ _ _ _ _ _ _ _ _ _ _ _ _ _ _ _ _ _ _ _ _ _ _ _ _ _ _ _ _ _ _ (Lib.hid ?hr6)
                intro u165 u166 u167 u168 u169 u170 u171 u172 u173 u174 u175 u176 u177 u178 u179 u180 u181 u182 u183 u184 u185 u186 u187 u188 u189 u190 u191 u192 u193 u194 u195 u196 w7 hg7
                have HG7 := Lib.hid (Grow.trans HG.out hg7)
                clear hg7
                go_wp2_with fail
                go_roundw
                case rel => exact ⟨j + 1, by have := HJL.out; omega, by go_num, HG7⟩
                case measure => have := HJL.out; simp [intOf]; omega
            · obtain ⟨q, hq, hqn⟩ : ∃ q, (q = j ∧ j + 1 < np ∨ j = np ∧ q + 1 = np) ∧ q < np := by
                have h1 := HLM2.out
                have h2 := HNP2.out
                by_cases c2 : j + 1 < np
                · exact ⟨j, .inl ⟨rfl, c2⟩, by omega⟩
                · exact ⟨np - 1, .inr ⟨by omega, by omega⟩, by omega⟩
              obtain ⟨gp, op, p, hape, hpz, y0⟩ := (HP.out.grow (HG3.out.trans HG.out)).cell2 (k := q) (by rw [← HNP.out]; exact hqn)
              obtain ⟨x, hx⟩ : ∃ x, bs[q]? = some x := ⟨bs[q]'(by rw [HLB.out, ← HNP.out]; exact hqn), by simp⟩
              subst hape
              have HY := Lib.hid y0
              have HPV := Lib.hid (HPP.out p (List.mem_of_getElem? hpz))
              have HPJ := Lib.hid (show PL[os.length + hs.length + j]? = some (2, 2 + p, x) by
                have h1 := HNP.out
                have h2 := HNP2.out
                rcases hq with ⟨rfl, c⟩ | ⟨c, c'⟩
                · rw [HPE.out]; exact plan_firsts HLB.out (by omega) hpz hx
                · rw [HPE.out, show os.length + hs.length + j = os.length + hs.length + (ps.length - 1) + (0 + 1) by omega, plan_behind HLB.out 0, zip_last HLB.out (by omega) (by rw [show ps.length - 1 = q by omega]; exact hpz) (by rw [show ps.length - 1 = q by omega]; exact hx)]
                  rfl)
              have HK := Lib.hid (HAT.out j _ HPJ.out)
              have HCE := Lib.hid ((HG.out.cell (p := ⟨g, i * 258 + 258 + j * 258, none⟩) HK.out.1).trans HK.out.2.1)
              have HCF := Lib.hid ((HG.out.cell (p := ⟨g, i * 258 + 258 + j * 258 + 1, none⟩) HK.out.1).trans HK.out.2.2)
              have HQN := Lib.hid hqn
              have d2 : ((j : Int) == (LM : Int) - 3) = false := by have := HLM2.out; simp; omega
              have d3 : ((j : Int) == (LM : Int) - 1) = false := by have := HLM2.out; simp; omega
              rcases hq with ⟨hqj, c⟩ | ⟨c, c'⟩
              · have d1 : ((j : Int) == (LM : Int) - 2) = false := by have := HLM2.out; simp; omega
                clear c hpz hx y0 hqn c1
                subst hqj
                go_upto_region 27 with (fail)
                refine ord_reg27b g (i * 258 + 258) LM C2 gp op np kp q q p _ (Lib.hid ⟨HJL.out, HQN.out⟩) HPV (Lib.hid ⟨Nat.lt_of_lt_of_le HK.out.1 HG.out.size, HCE.out⟩) (Lib.hid ⟨Nat.lt_of_lt_of_le HK.out.1 HG.out.size, HCF.out⟩) (Lib.hid ⟨World.block_lt_of_cell? _ _ HY.out, HY.out⟩) _ _ _ _ _ _ _ _ _ _ _ _ _ _ _ _ _ _ _ _ _ _ _ _ _ _ _ _ _ _ _ _ _ _ _ _ _ _ _ _ _ _ _ _ _ _ _ _ _ _ _ _ _ _ _ _ _ _ _ _ _ _ _ _ _ _ _ _ _ _ _ _ _ _ _ _ _ _ _ _ _ _ _ _ _ _ _ _ _ _ _ _ _ _ _ _ _ _ _ _ _ _ _ _ _ _ _ _ _ _ _ _ _ _ _ _ _ _ _ _ _ _ _ _ _ _ _ _ _ _ _ _ _ _ _ _ _ _ _ _ _ _ _ _ _ _ _ _ _ _ _ _ _ _ _ _ _ _ _ _ _ _ _ _ _ _ _ _ _ _ _ _ _ _ _ _ _ _ _ _ _ _ _ _ _ _ _ _ _ _ _ _ _ _ (Lib.hid ?hr7)
                intro u165 u166 u167 u168 u169 u170 u171 u172 u173 u174 u175 u176 u177 u178 u179 u180 u181 u182 u183 u184 u185 u186 u187 u188 u189 u190 u191 u192 u193 u194 u195 u196 w7 hg7
                have HG7 := Lib.hid (Grow.trans HG.out hg7)
                clear hg7
                go_wp2_with fail
                go_roundw
                case rel => exact ⟨q + 1, by have := HJL.out; omega, by go_num, HG7⟩
                case measure => have := HJL.out; simp [intOf]; omega
              · have d1 : ((j : Int) == (LM : Int) - 2) = true := by have := HLM2.out; simp; omega
                have HJQ := Lib.hid (show (j : Int) - 1 = (q : Int) by omega)
                clear c c' hpz hx y0 hqn c1
                go_upto_region 27 with (fail)
                rw [HJQ.out]
                refine ord_reg27b g (i * 258 + 258) LM C2 gp op np kp j q p _ (Lib.hid ⟨HJL.out, HQN.out⟩) HPV (Lib.hid ⟨Nat.lt_of_lt_of_le HK.out.1 HG.out.size, HCE.out⟩) (Lib.hid ⟨Nat.lt_of_lt_of_le HK.out.1 HG.out.size, HCF.out⟩) (Lib.hid ⟨World.block_lt_of_cell? _ _ HY.out, HY.out⟩) _ _ _ _ _ _ _ _ _ _ _ _ _ _ _ _ _ _ _ _ _ _ _ _ _ _ _ _ _ _ _ _ _ _ _ _ _ _ _ _ _ _ _ _ _ _ _ _ _ _ _ _ _ _ _ _ _ _ _ _ _ _ _ _ _ _ _ _ _ _ _ _ _ _ _ _ _ _ _ _ _ _ _ _ _ _ _ _ _ _ _ _ _ _ _ _ _ _ _ _ _ _ _ _ _ _ _ _ _ _ _ _ _ _ _ _ _ _ _ _ _ _ _ _ _ _ _ _ _ _ _ _ _ _ _ _ _ _ _ _ _ _ _ _ _ _ _ _ _ _ _ _ _ _ _ _ _ _ _ _ _ _ _ _ _ _ _ _ _ _ _ _ _ _ _ _ _ _ _ _ _ _ _ _ _ _ _ _ _ _ _ _ _ _ (Lib.hid ?hr8)
                intro u165 u166 u167 u168 u169 u170 u171 u172 u173 u174 u175 u176 u177 u178 u179 u180 u181 u182 u183 u184 u185 u186 u187 u188 u189 u190 u191 u192 u193 u194 u195 u196 w7 hg7
                have HG7 := Lib.hid (Grow.trans HG.out hg7)
                clear hg7
                go_wp2_with fail
                go_roundw
                case rel => exact ⟨j + 1, by have := HJL.out; omega, by go_num, HG7⟩
                case measure => have := HJL.out; simp [intOf]; omega
          · obtain rfl : j = LM := by omega
            have HGE := Lib.hid (Grow.trans HG3.out HG.out)
            go_wp2
            go_ret
            exact ⟨rfl, HGE.out⟩
#print axioms order_walk
end Go.Proofs.YtieknecbheeekaaDoor
