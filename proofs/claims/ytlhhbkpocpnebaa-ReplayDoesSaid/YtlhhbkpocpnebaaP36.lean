/- The law ReplayDoes: the walk. -/
import Derived.Test.YtlhhbkpocpnebaaP36a
import Derived.Test.YtlhhbkpocpnebaaP18
set_option linter.unusedVariables false
set_option linter.unusedSimpArgs false
namespace Go.Proofs.Ytlhhbkpocpnebaa
open Go.RowKit Go.Maps

theorem Row.touched {S : List Nat} {w w' : World} {e sz : Nat} {v : Value} {l : List (List Value)} (h : Row w e sz v l) (ht : Touch S w w') (hn : ∀ g, v.ownBlock = some g → g ∉ S) : Row w' e sz v l := Row.kept h ht hn
/-- transactions of one's own stay where a disk is written -/
theorem SSt.touched {W w w' : World} {S : List Nat} {v : Value} {xs : List TV} {l : List PT} (h : SSt W v xs l w) (ht : Touch S w w') (hS : ∀ k ∈ S, k < W.heap.size) : TRow w' v xs :=
  ⟨Row.kept h.row.row ht (fun g e hm => by have h1 := h.vlo g e; have h2 := hS g hm; omega), fun x hx =>
    ⟨Row.kept (h.row.at_ x hx).cs ht (fun g e hm => by have h1 := (h.ilo x hx g (.inl e)).1; have h2 := hS g hm; omega), Row.kept (h.row.at_ x hx).rs ht (fun g e hm => by have h1 := (h.ilo x hx g (.inr e)).1; have h2 := hS g hm; omega), (h.row.at_ x hx).ok⟩⟩
theorem putB_apply (N : Nat) (cs : List Cp) {c : Cp} (h0 : 0 ≤ c.1) (h1 : c.1 < (N : Int)) : putB (applyW (zerosL N) (wsOf cs)) c = applyW (zerosL N) (wsOf (cs ++ [c])) := by
  have hl : (applyW (zerosL N) (wsOf cs)).length = N := by rw [applyW_length]; unfold zerosL; simp
  unfold putB
  rw [hl, if_pos ⟨h0, h1⟩]
  unfold wsOf
  rw [List.map_append, List.map_cons, List.map_nil, applyW_snoc]
theorem app_len (N : Nat) (cs : List Cp) : (applyW (zerosL N) (wsOf cs)).length = N := by rw [applyW_length]; unfold zerosL; simp
theorem stK_last (N : Nat) (p : Int) (cs : List Cp) (hb : Blk) {k : Nat} (h : k ≤ cs.length) : (stK N p cs hb k).last = applyW (zerosL N) (wsOf (cs.take k)) ∧ (stK N p cs hb k).safe = zerosL N ∧ (stK N p cs hb k).acts = (k : Int) := by
  unfold stK
  rw [if_pos h]
  exact ⟨rfl, rfl, by show ((cs.take k).length : Int) = _; rw [List.length_take, Nat.min_eq_left h]⟩
theorem stK_1 (N : Nat) (p : Int) (cs : List Cp) (hb : Blk) : (stK N p cs hb (cs.length + 1)).last = applyW (zerosL N) (wsOf cs) ∧ (stK N p cs hb (cs.length + 1)).safe = applyW (zerosL N) (wsOf cs) ∧ (stK N p cs hb (cs.length + 1)).acts = ((cs.length + 1 : Nat) : Int) := by
  unfold stK
  rw [if_neg (by omega), if_pos rfl]
  exact ⟨rfl, rfl, by rw [(fl_facts N p cs).2.2.1]; omega⟩
theorem stK_2 (N : Nat) (p : Int) (cs : List Cp) (hb : Blk) : (stK N p cs hb (cs.length + 2)).last = (applyW (zerosL N) (wsOf cs)).set 2 hb ∧ (stK N p cs hb (cs.length + 2)).safe = applyW (zerosL N) (wsOf cs) ∧ (stK N p cs hb (cs.length + 2)).acts = ((cs.length + 2 : Nat) : Int) := by
  unfold stK
  rw [if_neg (by omega), if_neg (by omega), if_pos rfl]
  exact ⟨rfl, rfl, by rw [(wr_facts N p cs hb).2.2.1]; omega⟩
theorem stK_3 (N : Nat) (p : Int) (cs : List Cp) (hb : Blk) : (stK N p cs hb (cs.length + 3)).last = (applyW (zerosL N) (wsOf cs)).set 2 hb ∧ (stK N p cs hb (cs.length + 3)).safe = (applyW (zerosL N) (wsOf cs)).set 2 hb ∧ (stK N p cs hb (cs.length + 3)).acts = ((cs.length + 3 : Nat) : Int) := by
  unfold stK
  rw [if_neg (by omega), if_neg (by omega), if_neg (by omega)]
  refine ⟨rfl, ?_, ?_⟩
  · show applyW ((stW N p cs).flushed.wrote 2 hb).safe ((stW N p cs).flushed.wrote 2 hb).ws = _
    rw [(wr_facts N p cs hb).2.1]
    rfl
  · show ((stW N p cs).flushed.wrote 2 hb).acts + 1 = _
    rw [(wr_facts N p cs hb).2.2.1]; omega
/-- two rows of blocks of one's own -/
structure TwoB (W : World) (N gs gn : Nat) (ls ln : List Blk) (wr : World) : Prop where
  grow : Grow W wr
  s : BRow wr (.slice (some ⟨gs, 0, none⟩) N N) ls
  n : BRow wr (.slice (some ⟨gn, 0, none⟩) N N) ln
  ne : gs ≠ gn
  los : W.heap.size ≤ gs
  lon : W.heap.size ≤ gn
theorem TwoB.later {W : World} {N gs gn : Nat} {ls ln : List Blk} {wr w' : World} (h : TwoB W N gs gn ls ln wr) (hg : Grow wr w') : TwoB W N gs gn ls ln w' := ⟨Grow.trans h.grow hg, h.s.grow hg, h.n.grow hg, h.ne, h.los, h.lon⟩
theorem TwoB.copied {W : World} {N gs gn : Nat} {ls ln : List Blk} {wr w' : World} (h : TwoB W N gs gn ls ln wr) (hr : BRow w' (.slice (some ⟨gs, 0, none⟩) N N) ln) (ht : Touch [gs] wr w') : TwoB W N gs gn ln ln w' :=
  ⟨Below.trans h.grow (ht.below h.grow.size (fun k hk => by rw [List.mem_singleton.1 hk]; exact h.los)), hr, Row.kept h.n ht (fun g e hm => by cases e; exact h.ne (List.mem_singleton.1 hm).symm), h.ne, h.los, h.lon⟩
theorem TwoB.stored {W : World} {N gs gn : Nat} {ls ln : List Blk} {wr : World} (h : TwoB W N gs gn ls ln wr) {x : Blk} (hx : x.length = 256) (b : Nat) (hb : b < ln.length) : TwoB W N gs gn ls (ln.set b x) (wr.setCells gn (b * 256) (bc x)) := by
  have ht : Touch [gn] wr (wr.setCells gn (b * 256) (bc x)) := touch_setCells (by simp) _ _ _
  refine ⟨Below.trans h.grow (ht.below h.grow.size (fun k hk => by rw [List.mem_singleton.1 hk]; exact h.lon)), Row.kept h.s ht (fun g e hm => by cases e; exact h.ne (List.mem_singleton.1 hm)), ?_, h.ne, h.los, h.lon⟩
  have h1 := Row.store h.n (i := b) (c := bc x) (by rw [bc_length, hx]) (by rw [List.length_map]; exact hb)
  unfold BRow
  rw [List.map_set]
  exact h1
theorem out_in {gr sz ni jr : Int} {N s : Nat} {L : List PT} (hm : mayN gr sz ni jr N L s = 0) (how : Own (ov L)) {zs : List Int} (hr : Rising (HasM (ov L)) zs) : 2 < N ∧ ∀ c ∈ outL (ov L) zs, 0 ≤ c.1 ∧ c.1 < (N : Int) ∧ c.2.length = 256 := by
  unfold mayN at hm
  split at hm
  · omega
  rename_i hM0
  have hM := Classical.not_not.1 hM0
  split at hm
  · omega
  rename_i h2
  obtain ⟨hbn, _, _, hall⟩ := Classical.not_not.1 h2
  have hnb : (N : Int) = 2 + jr + gr * sz := by rw [hbn]; unfold Geo.nBlocks; rw [if_pos hM]
  refine ⟨?_, fun c hc => ?_⟩
  · have hm2 := hM
    unfold Geo.May at hm2
    have hg0 : 0 ≤ gr * sz := Int.mul_nonneg (by omega) (by omega)
    omega
  · obtain ⟨z, hz, rfl⟩ := List.mem_map.1 hc
    obtain ⟨d, hd⟩ := Option.isSome_iff_exists.1 ((hr.mem z).1 hz)
    rw [hd]
    have hcp : z ∈ allB L := Classical.byContradiction fun hn => by rw [ov_copied L z hn] at hd; cases hd
    have hd1 : d.1 = z := (how z d hd).1
    unfold allB at hcp
    obtain ⟨t, ht, hzt⟩ := List.mem_flatMap.1 hcp
    obtain ⟨c', hc', he'⟩ := List.mem_map.1 hzt
    have h1 := List.all_eq_true.1 hall t ht
    unfold tOut at h1
    rw [Bool.and_eq_true] at h1
    have h2 := List.all_eq_true.1 h1.1 c' hc'
    have h3 := of_decide_eq_true h2
    show 0 ≤ d.1 ∧ d.1 < (N : Int) ∧ d.2.length = 256
    rw [hd1, ← he', hnb]
    exact ⟨h3.2.1, h3.2.2.1, (how z d hd).2.1⟩
set_option maxRecDepth 100000 in
set_option maxHeartbeats 32000000 in
theorem does_walk (gr sz ni jr blocks : Int) {w : World} {v : Value} {l : List TSh} (h : TShIn w v l) (hl : l.length ≤ 9223372036854775807) (s : Nat) (p : Int) (hp : p ≤ 9223372036854775807) :
    Calls Try.prog 9 #[.agg #[.int .i64 gr, .int .i64 sz, .int .i64 ni, .int .i64 jr], .int .i64 blocks, v, .int .u32 (s : Int), .int .i64 p] w fun e w' => e = .returned (.bool true) ∧ Below w.heap.size w w' := by
  have HL := Lib.hid hl
  have HPP := Lib.hid hp
  have HT0 := Lib.hid (h.grow (Grow.alloc w (.cells #[.int .i64 gr, .int .i64 sz, .int .i64 ni, .int .i64 jr] 43)))
  have HTB := Lib.hid h
  obtain ⟨a, cap, hv, _⟩ := h
  obtain ⟨n, hn⟩ : ∃ n, n = l.length := ⟨_, rfl⟩
  rw [← hn] at hv hl
  subst hv
  have HP0 := Lib.hid (heap_alloc_last w (.cells #[.int .i64 gr, .int .i64 sz, .int .i64 ni, .int .i64 jr] 43))
  have HG0 := Lib.hid (Grow.alloc w (.cells #[.int .i64 gr, .int .i64 sz, .int .i64 ni, .int .i64 jr] 43))
  have HM0 := Lib.hid (many19_ok HT0.out HL.out)
  clear hn hp
  go_enter Try.func9, Try.ntmps9
  go_upto_region 1 with (fail)
  obtain ⟨w0, hw0⟩ : ∃ w0, w0 = w.alloc (.cells #[.int .i64 gr, .int .i64 sz, .int .i64 ni, .int .i64 jr] 43) := ⟨_, rfl⟩
  rw [← hw0] at HT0 HP0 HG0 HM0 ⊢
  clear hw0
  obtain ⟨PG, hPG⟩ : ∃ P, P = w.heap.size := ⟨_, rfl⟩
  rw [← hPG] at HP0 ⊢
  have HPG := Lib.hid hPG
  clear hPG
  go_wp2_with fail
  refine HM0.out.mono ?_
  intro e w1 hpost
  obtain ⟨b, he, hg, hb⟩ := hpost
  subst he
  have HG1 := Lib.hid (Grow.trans HG0.out hg)
  have HP1 := Lib.hid ((hg.block _ (Array.getElem?_eq_some_iff.1 HP0.out).1).trans HP0.out)
  clear HT0 HP0 HG0 HM0
  cases b with
  | true =>
    clear hg hb
    go_wp2_with fail
    go_ret
    exact ⟨rfl, HG1.out⟩
  | false =>
  have HLN := Lib.hid (hb rfl).1
  have HSZ := Lib.hid (hb rfl).2
  clear hg hb
  by_cases hb1 : blocks < 1
  · have d0 : decide (blocks < 1) = true := by simp; omega
    clear hb1
    go_wp2_with fail
    go_ret
    exact ⟨rfl, HG1.out⟩
  have d0 : decide (blocks < 1) = false := by simp; omega
  by_cases hb2 : 2048 < blocks
  · have d1 : decide (2048 < blocks) = true := by simp; omega
    clear hb1 hb2
    go_wp2_with fail
    go_ret
    exact ⟨rfl, HG1.out⟩
  have d1 : decide (2048 < blocks) = false := by simp; omega
  obtain ⟨N, rfl⟩ : ∃ N : Nat, blocks = (N : Int) := ⟨blocks.toNat, by omega⟩
  have hN1 : 1 ≤ N := by omega
  have hN2 : N ≤ 2048 := by omega
  clear hb1 hb2
  go_wp2_with fail
  refine (new_ok N hN1 hN2 w1).mono ?_
  intro e w2 hpost
  obtain ⟨B, S, he, hd, hg, hs⟩ := hpost
  subst he
  have HD2 := Lib.hid hd
  have HS2 := Lib.hid hs
  have HSL := Lib.hid hd.lt
  have HG2 := Lib.hid (Grow.trans HG1.out hg)
  have HP2 := Lib.hid ((hg.block _ (Array.getElem?_eq_some_iff.1 HP1.out).1).trans HP1.out)
  have HBS := Lib.hid (show B ∈ S by obtain ⟨_, _, _, _, _, hP⟩ := hd; exact hP.inB)
  clear hd hg hs d0 d1
  go_wp2_with fail
  refine (power_any HD2.out p).mono ?_
  intro e w3 hpost
  obtain ⟨⟨u, he⟩, hd, ht⟩ := hpost
  subst he
  have HD3 := Lib.hid (show IsDisk w3 B S (newP N p) from hd)
  have HG3 := Lib.hid (show Grow w w3 from Below.trans HG2.out (ht.below HG2.out.size (fun k hk => by rw [List.mem_singleton.1 hk]; exact Nat.le_trans HG1.out.size (HS2.out B HBS.out))))
  have HP3 := Lib.hid ((ht.block PG (Array.getElem?_eq_some_iff.1 HP2.out).1 (fun hm => by have h1 := HS2.out B HBS.out; have h2 := (Array.getElem?_eq_some_iff.1 HP1.out).1; have h3 := List.mem_singleton.1 hm; omega)).trans HP2.out)
  have HSL3 := Lib.hid (show ∀ k ∈ S, k < w3.heap.size from HD3.out.lt)
  have HPS := Lib.hid (show PG ∉ S from fun hm => by have h1 := HS2.out PG hm; have h2 := (Array.getElem?_eq_some_iff.1 HP1.out).1; omega)
  have HSW := Lib.hid (show ∀ k ∈ S, w.heap.size ≤ k from fun k hk => Nat.le_trans HG1.out.size (HS2.out k hk))
  have HSO := Lib.hid (short_ok (HTB.out.grow HG3.out) HLN.out (Nat.le_trans HSZ.out (by omega)))
  clear hd ht HD2 HP2 HG2 HSL
  go_wp2_with fail
  refine HSO.out.mono ?_
  intro e w4 hpost
  obtain ⟨v13, xs, he, hst⟩ := hpost
  subst he
  obtain ⟨a13, n13, c13, rfl⟩ := rowSlice hst.row.row
  have HST := Lib.hid hst
  have HD4 := Lib.hid (HD3.out.kept (Touch.of_below (S := []) hst.grow) (by simp))
  have HG4 := Lib.hid (Grow.trans HG3.out hst.grow)
  have HP4 := Lib.hid ((hst.grow.block _ (Array.getElem?_eq_some_iff.1 HP3.out).1).trans HP3.out)
  obtain ⟨L, hL⟩ : ∃ L, L = shortP l := ⟨_, rfl⟩
  have HTS := Lib.hid (show xs.map (·.t) = L by rw [hL]; exact hst.ts)
  have HXL := Lib.hid (show xs.length ≤ 10000 by rw [hst.len, shortP_length]; exact Nat.le_trans HLN.out (by omega))
  have HCN := Lib.hid (show copyN L ≤ 1000 by rw [hL]; exact Nat.le_trans (copyN_short l) HSZ.out)
  have HDO := Lib.hid (do_ok gr sz ni jr HPP.out HD4.out hst.row HTS.out HXL.out HCN.out s)
  have hc0 := cell_at HP4.out 0
  have hc1 := cell_at HP4.out 1
  have hc2 := cell_at HP4.out 2
  have hc3 := cell_at HP4.out 3
  clear hst hL HSO HP3 HD3
  go_wp2_with fail
  refine HDO.out.mono ?_
  intro e w5 hpost
  obtain ⟨f, d', S', he, hd, ht, hs', hbad, hgood⟩ := hpost
  subst he
  have HD5 := Lib.hid hd
  have HG5 := Lib.hid (show Grow w w5 from Below.trans HG4.out (ht.below HG4.out.size (fun k hk => HSW.out k hk)))
  have HP5 := Lib.hid ((ht.block PG (Array.getElem?_eq_some_iff.1 HP4.out).1 HPS.out).trans HP4.out)
  have HX5 := Lib.hid (HST.out.touched ht (fun k hk => HSL3.out k hk))
  have HBAD := Lib.hid hbad
  have HGOOD := Lib.hid hgood
  have HMY := Lib.hid (rmay19_ok gr sz ni jr N (by omega) HX5.out HTS.out HXL.out (Nat.le_trans HCN.out (by omega)) s)
  clear hd ht hs' hbad hgood hc0 hc1 hc2 hc3 HDO HD4 HP4
  have hc0 := cell_at HP5.out 0
  have hc1 := cell_at HP5.out 1
  have hc2 := cell_at HP5.out 2
  have hc3 := cell_at HP5.out 3
  obtain ⟨my, hmy⟩ : ∃ my, my = mayN gr sz ni jr N L s := ⟨_, rfl⟩
  rw [← hmy] at HMY
  have HMN := Lib.hid hmy
  rw [← hmy] at HBAD HGOOD
  clear hmy
  go_wp2_with fail
  refine HMY.out.mono ?_
  intro e w6 hpost
  obtain ⟨he, hg⟩ := hpost
  subst he
  have HD6 := Lib.hid (HD5.out.kept (Touch.of_below (S := []) hg) (by simp))
  have HG6 := Lib.hid (Grow.trans HG5.out hg)
  have HX6 := Lib.hid (HX5.out.grow hg)
  clear hg hc0 hc1 hc2 hc3 HMY HD5 HX5 HG5
  by_cases hm0 : my = 0
  case neg =>
    have e0 : (my != 0) = true := by simp [hm0]
    obtain ⟨hf, hd'⟩ := HBAD.out hm0
    subst hd'
    have e1 : (f == my) = true := by simp [hf]
    have HAC := Lib.hid (show Calls Try.prog 28 #[.pointer (some ⟨B, 0, none⟩)] w6 fun e w' => e = .returned (.int .i64 0) ∧ w6 = w' from acts_any HD6.out)
    clear hf hm0
    go_wp2_with fail
    refine HAC.out.mono ?_
    intro e w' hpost
    obtain ⟨he, hw⟩ := hpost
    subst he hw
    go_wp2_with fail
    go_ret
    exact ⟨rfl, HG6.out⟩
  case pos =>
    subst hm0
    have HS12 := Lib.hid (show 1 ≤ s ∧ s ≤ 2147483648 by
      have h1 := HMN.out
      unfold mayN at h1
      split at h1
      · omega
      · split at h1
        · omega
        · rename_i _ h2
          have := Classical.not_not.1 h2
          exact ⟨this.2.1, this.2.2.1⟩)
    have HWO := Lib.hid (writes_ok HX6.out HTS.out HXL.out (Nat.le_trans HCN.out (by omega)) s HS12.out.1 HS12.out.2)
    go_wp2_with fail
    refine HWO.out.mono ?_
    intro e w7 hpost
    obtain ⟨v16, zs, he, hr, hc, hg⟩ := hpost
    subst he
    obtain ⟨zs', hr', hdr⟩ := HGOOD.out (by trivial)
    obtain rfl := hr'.unique hr
    have HIN := Lib.hid (out_in HMN.out.symm (own_ov L (fun t ht => by rw [← HTS.out] at ht; obtain ⟨x, hx, rfl⟩ := List.mem_map.1 ht; exact (HX6.out.at_ x hx).ok)) hr)
    have HML := Lib.hid (show (outL (ov L) zs').length ≤ 1000 by
      unfold outL
      rw [List.length_map]
      refine Nat.le_trans (nodup_sub zs' (allB L) hr.nodup (fun z hz => ?_)) (by rw [allB_length]; exact HCN.out)
      exact Classical.byContradiction fun hn => by have h1 := (hr.mem z).1 hz; unfold HasM at h1; rw [ov_copied L z hn] at h1; cases h1)
    obtain ⟨cs, hcs⟩ : ∃ cs, cs = outL (ov L) zs' := ⟨_, rfl⟩
    obtain ⟨hb, hhb⟩ : ∃ hb, hb = beginB 4 s 0 := ⟨_, rfl⟩
    rw [← hcs] at hc hdr HIN HML
    rw [← hhb] at hc hdr
    have HBL := Lib.hid (show hb.length = 256 by rw [hhb]; exact beginB_length 4 s 0)
    obtain ⟨m, hm⟩ : ∃ m, m = cs.length := ⟨_, rfl⟩
    have HM := Lib.hid hm
    obtain ⟨a16, k16, hv16⟩ := CRow.len hc
    rw [List.length_append, ← hm, List.length_singleton] at hv16
    obtain ⟨q, hq⟩ : ∃ q, q = m + 1 := ⟨_, rfl⟩
    obtain ⟨A, hA⟩ : ∃ A, A = m + 3 := ⟨_, rfl⟩
    rw [← hq] at hv16
    subst hv16
    have HC7 := Lib.hid hc
    have HD7 := Lib.hid (HD6.out.kept (Touch.of_below (S := []) hg) (by simp))
    have HG7 := Lib.hid (Grow.trans HG6.out hg)
    have hmb : m ≤ 1000 := by rw [hm]; exact HML.out
    have hwA : IntKind.i64.wrap ((q : Int) + 2) = (A : Int) := by rw [IntKind.wrap_i64]; omega
    have hwm : IntKind.i64.wrap ((q : Int) - 1) = (m : Int) := by rw [IntKind.wrap_i64]; omega
    have HN2 := Lib.hid HIN.out.1
    have HDR := Lib.hid hdr
    have HQ := Lib.hid hq
    have HA3 := Lib.hid hA
    clear hr hr' hc hg hcs hhb hm HGOOD HBAD HWO HD6 HX6 HG6 hdr hq hA
    by_cases hp0 : p < 0
    · have hA3 : doneK p cs = m + 3 := by unfold doneK; rw [if_pos (.inl hp0), HM.out]
      have dp : decide ((0 : Int) ≤ p) = false := by simp; omega
      have hf : f = 0 := by rw [HDR.out.is, hA3, if_pos (by rw [HM.out])]
      have hd : d' = stK N p cs hb (cs.length + 3) := by rw [HDR.out.st, hA3]; rw [HM.out]
      subst hf hd
      have HST := Lib.hid (stK_3 N p cs hb)
      have HAC := Lib.hid (show Calls Try.prog 28 #[.pointer (some ⟨B, 0, none⟩)] w7 fun e w' => e = .returned (.int .i64 (A : Int)) ∧ w7 = w' by
        have := acts_any HD7.out
        rwa [HST.out.2.2, ← HM.out, ← HA3.out] at this)
      have ea : ((A : Int) == (A : Int)) = true := by simp
      have eb : ((A : Int) != (A : Int)) = false := by simp
      clear hA3
      go_wp2_with fail
      refine HAC.out.mono ?_
      intro e w' hpost
      obtain ⟨he, hw⟩ := hpost
      subst he hw
      go_upto_region 18 with (fail)
      refine does_reg18 N w7 hN2 _ _ _ _ _ _ _ _ _ _ _ _ _ _ _ _ _ _ _ _ _ _ _ _ _ _ _ _ _ _ _ _ _ _ _ _ _ _ _ _ _ _ _ _ _ _ _ _ _ _ _ _ _ _ _ _ _ _ _ _ _ _ _ _ _ _ _ _ _ _ _ _ _ _ _ _ _ _ _ _ _ _ _ _ _ _ _ _ _ _ _ _ _ _ _ _ _ _ _ _ _ _ _ _ _ _ _ _ _ _ _ _ _ _ _ _ _ _ _ _ _ _ _ _ _ _ _ _ _ _ _ _ _ _ _ _ _ _ _ _ _ _ _ _ _ _ _ _ _ _ _ _ _ _ _ _ _ _ _ _ _ _ _ (Lib.hid ?hdoesreg181)
      intro u100 u102 gs gn W8 hne hls hln hbs hbn hg8
      have HT8 := Lib.hid (show TwoB w7 N gs gn (zerosL N) (applyW (zerosL N) (wsOf (cs.take 0))) W8 from ⟨hg8, hbs, by rw [List.take_zero]; exact hbn, hne, hls, hln⟩)
      clear hne hls hln hbs hbn hg8
      go_wp2_with fail
      go_loopw [21] (fun t21 wr => ∃ i : Nat, t21 = .int .i64 (i : Int) ∧ i ≤ m ∧ Hid (TwoB w7 N gs gn (zerosL N) (applyW (zerosL N) (wsOf (cs.take i))) wr)) (fun t21 _ => m - (intOf t21).toNat)
      case atStart => exact ⟨0, by go_num, by omega, HT8⟩
      case round =>
        obtain ⟨i, rfl, hiJ, HI⟩ := hrel
        clear HT8
        by_cases hi : i < m
        · have him : i < m := by omega
          obtain ⟨c, hck⟩ : ∃ c, cs[i]? = some c := ⟨cs[i]'(by rw [← HM.out]; exact him), by simp⟩
          have hck2 : (cs ++ [(2, hb)])[i]? = some c := by rw [List.getElem?_append_left (by rw [← HM.out]; exact him)]; exact hck
          have hrow := HC7.out.grow HI.out.grow
          obtain ⟨gc, cc', hvg, hgc⟩ := hrow.open_ (by simp)
          rw [List.length_append, ← HM.out, List.length_singleton, ← HQ.out] at hvg
          cases hvg
          have hrg := hrow.range hck2
          have HCI := Lib.hid (HIN.out.2 c (List.mem_of_getElem? hck))
          obtain ⟨b, hbb⟩ : ∃ b : Nat, c.1 = (b : Int) := ⟨c.1.toNat, by have := HCI.out.1; omega⟩
          have hbn : b < N := by have := HCI.out.2.1; omega
          have HCB := Lib.hid (show gc < wr.heap.size ∧ wr.cell? ⟨gc, i * 257, none⟩ = some (.int .i64 (b : Int)) from ⟨hgc, by have := hrg 0 (.int .i64 c.1) rfl; rw [hbb] at this; exact this⟩)
          have HRD := Lib.hid (show gc < wr.heap.size ∧ wr.rangeAt gc (i * 257 + 1) (bc c.2) from ⟨hgc, fun j u hj => by have := hrg (j + 1) u hj; rw [show i * 257 + (j + 1) = i * 257 + 1 + j by omega] at this; exact this⟩)
          have HC2 := Lib.hid HCI.out.2.2
          have HLN := Lib.hid (app_len N (cs.take i))
          have HTH := Lib.hid (show ∀ w', Touch [] wr w' → w'.there gn (b * 256) (bc c.2).toArray.size from fun w' ht => by
            rw [show (bc c.2).toArray.size = 256 by rw [List.size_toArray, bc_length, HC2.out]]
            exact Row.there (HI.out.n.grow (ht.below (Nat.le_refl _) (by simp))) (by rw [List.length_map, HLN.out]; exact hbn))
          have HI2 := Lib.hid (show ∀ w', Touch [] wr w' → TwoB w7 N gs gn (zerosL N) (applyW (zerosL N) (wsOf (cs.take (i + 1)))) (w'.setCells gn (b * 256) (bc c.2)) from fun w' ht => by
            have h1 := (HI.out.later (ht.below (Nat.le_refl _) (by simp))).stored HC2.out b (by rw [HLN.out]; exact hbn)
            rw [List.take_add_one, hck, show (some c : Option Cp).toList = [c] from rfl, ← putB_apply N (cs.take i) HCI.out.1 HCI.out.2.1]
            unfold putB
            rw [HLN.out, if_pos ⟨HCI.out.1, HCI.out.2.1⟩, show c.1.toNat = b by omega]
            exact h1)
          have dm : decide ((i : Int) < (m : Int)) = true := by simp; omega
          have dk : decide ((i : Int) < (A : Int)) = true := by have hA := HA3.out; simp; omega
          have dkn : i < A := by have hA := HA3.out; omega
          clear hck hck2 hrow hgc hrg hbb
          go_upto_region 23 with (fail)
          refine does_reg23 i q gc k16 gn N N b c wr (by have hq := HQ.out; omega) (by have hq := HQ.out; omega) hbn (by omega) HCB HRD HC2 HTH _ _ _ _ _ _ _ _ _ _ _ _ _ _ _ _ _ _ _ _ _ _ _ _ _ _ _ _ _ _ _ _ _ _ _ _ _ _ _ _ _ _ _ _ _ _ _ _ _ _ _ _ _ _ _ _ _ _ _ _ _ _ _ _ _ _ _ _ _ _ _ _ _ _ _ _ _ _ _ _ _ _ _ _ _ _ _ _ _ _ _ _ _ _ _ _ _ _ _ _ _ _ _ _ _ _ _ _ _ _ _ _ _ _ _ _ _ _ _ _ _ _ _ _ _ _ _ _ _ _ _ _ _ _ _ _ _ _ _ _ _ _ _ _ _ _ _ _ _ _ _ _ _ _ _ _ _ _ _ _ _ (Lib.hid ?hdoesreg232)
          intro u117 u118 u119 u120 u121 u122 u123 u124 u125 u126 u127 u128 W2 hRW2
          have HI3 := Lib.hid (HI2.out W2 hRW2)
          clear hRW2
          go_wp2
          go_roundw
          case rel => exact ⟨i + 1, by go_num, by omega, HI3⟩
          case measure => simp [intOf]; omega
        · obtain rfl : m = i := by omega
          have HTn := Lib.hid (show TwoB w7 N gs gn (zerosL N) (applyW (zerosL N) (wsOf cs)) wr by have := HI.out; rwa [HM.out, List.take_length] at this)
          have dm : decide ((m : Int) < (m : Int)) = false := by simp
          clear HI
          have HLZ := Lib.hid (show ((applyW (zerosL N) (wsOf cs)).set 2 hb).length = N by rw [List.length_set, app_len])
          have HLY := HLZ
          have g1 : decide ((m : Int) < (A : Int)) = true := by have hA := HA3.out; simp; omega
          have g2 : decide ((m : Int) + 1 < (A : Int)) = true := by have hA := HA3.out; simp; omega
          have g3 : decide ((m : Int) + 2 < (A : Int)) = true := by have hA := HA3.out; simp; omega
          have n0 : m < A := by have hA := HA3.out; omega
          have i0 : (m : Int) < (A : Int) := by have hA := HA3.out; omega
          have n1 : m + 1 < A := by have hA := HA3.out; omega
          have i1 : (m : Int) + 1 < (A : Int) := by have hA := HA3.out; omega
          have n2 : m + 2 < A := by have hA := HA3.out; omega
          have i2 : (m : Int) + 2 < (A : Int) := by have hA := HA3.out; omega
          obtain ⟨wc, hwc⟩ : ∃ wc, wc = wr.setCells gs 0 ((applyW (zerosL N) (wsOf cs)).map bc).flatten := ⟨_, rfl⟩
          have hcp := copy_run HTn.out.s HTn.out.n (by unfold zerosL; simp) (app_len N cs) 3
          rw [← hwc] at hcp
          have HTc := Lib.hid (show TwoB w7 N gs gn (applyW (zerosL N) (wsOf cs)) (applyW (zerosL N) (wsOf cs)) wc by rw [hwc]; exact HTn.out.copied (copied HTn.out.s (fun x hx => BRow.blk HTn.out.n hx) (by unfold zerosL; simp) (app_len N cs)) (touch_setCells (by simp) _ _ _))
          clear hwc HTn
          go_upto_region 26 with (fail)
          clear hcp
          have hrow := HC7.out.grow HTc.out.grow
          obtain ⟨gc, cc', hvg, hgc⟩ := hrow.open_ (by simp)
          rw [List.length_append, ← HM.out, List.length_singleton, ← HQ.out] at hvg
          cases hvg
          have hrg := hrow.range (k := m) (c := (2, hb)) (by rw [List.getElem?_append_right (by rw [HM.out]; exact Nat.le_refl _), HM.out, Nat.sub_self]; rfl)
          have HRD := Lib.hid (show wc.rangeAt gc (m * 257 + 1) (bc hb) from fun j u hj => by have := hrg (j + 1) u hj; rw [show m * 257 + (j + 1) = m * 257 + 1 + j by omega] at this; exact this)
          have HTH := Lib.hid (show wc.there gn 512 (bc hb).toArray.size by
            rw [show (bc hb).toArray.size = 256 by rw [List.size_toArray, bc_length, HBL.out]]
            exact Row.there HTc.out.n (i := 2) (by rw [List.length_map, app_len]; exact HN2.out))
          have HTs := Lib.hid (show TwoB w7 N gs gn (applyW (zerosL N) (wsOf cs)) ((applyW (zerosL N) (wsOf cs)).set 2 hb) (wc.setCells gn 512 (bc hb)) from HTc.out.stored HBL.out 2 (by rw [app_len]; exact HN2.out))
          have b0 : (0 : Int) ≤ (m : Int) := by omega
          have b1 : (m : Int) < (q : Int) := by have hq := HQ.out; omega
          have b2 : (2 : Int) < (N : Int) := by have := HN2.out; omega
          have HSB := Lib.hid (bsizeL HBL.out)
          have HSB2 := Lib.hid (bsize HBL.out)
          clear hrow hgc hrg
          go_upto_region 28 with (first | (refine wpList_load_mid rfl 29 _ rfl gc (m * 257 + 1) rfl (bc hb) _ HRD.out Try.underlying29 rfl HSB.out ?_) | (refine wpList_store_mid rfl 29 _ _ rfl gn 512 (bc hb).toArray rfl rfl HTH.out HSB2.out (all_oneCell_toArray (bc_one _)) ?_))
          clear HRD HTH HTc
          generalize wc.setCells gn 512 (bc hb) = wd at *
          obtain ⟨we, hwe⟩ : ∃ we, we = wd.setCells gs 0 (((applyW (zerosL N) (wsOf cs)).set 2 hb).map bc).flatten := ⟨_, rfl⟩
          have hcp := copy_run HTs.out.s HTs.out.n (app_len N cs) (by rw [List.length_set]; exact app_len N cs) 3
          rw [← hwe] at hcp
          have HTe := Lib.hid (show TwoB w7 N gs gn ((applyW (zerosL N) (wsOf cs)).set 2 hb) ((applyW (zerosL N) (wsOf cs)).set 2 hb) we by rw [hwe]; exact HTs.out.copied (copied HTs.out.s (fun x hx => BRow.blk HTs.out.n hx) (app_len N cs) (by rw [List.length_set]; exact app_len N cs)) (touch_setCells (by simp) _ _ _))
          clear hwe HTs
          go_upto_region 30 with (fail)
          clear hcp
          have HDE := Lib.hid (HD7.out.kept (Touch.of_below (S := []) HTe.out.grow) (by simp))
          have HIM := Lib.hid (image_ok HDE.out)
          rw [HST.out.1] at HIM
          go_wp2_with fail
          clear g1 g2 g3 n0 n1 n2 i0 i1 i2
          refine HIM.out.mono ?_
          intro e x1 hpost
          obtain ⟨ga, ka, he, hra, _, hga⟩ := hpost
          subst he
          rw [HLZ.out] at hra ⊢
          have HX1 := Lib.hid hga
          have HSM := Lib.hid (sameb_ok (show BRow x1 _ _ from hra) (HTe.out.n.grow hga) (by rw [HLZ.out]; omega))
          have HDX := Lib.hid (HDE.out.kept (Touch.of_below (S := []) hga) (by simp))
          clear hra hga HIM
          go_wp2_with fail
          refine HSM.out.mono ?_
          intro e x2 hpost
          obtain ⟨he, hg⟩ := hpost
          subst he
          have HX2 := Lib.hid (Grow.trans HX1.out hg)
          have HDY := Lib.hid (HDX.out.kept (Touch.of_below (S := []) hg) (by simp))
          have HSF := Lib.hid (safe_ok HDY.out)
          rw [HST.out.2.1] at HSF
          clear hg HSM HDX
          go_wp2_with fail
          refine HSF.out.mono ?_
          intro e x3 hpost
          obtain ⟨gb, kb, he, hrb, _, hgb⟩ := hpost
          subst he
          rw [HLY.out] at hrb ⊢
          have HX3 := Lib.hid (Grow.trans HX2.out hgb)
          have HSM := Lib.hid (sameb_ok (show BRow x3 _ _ from hrb) (HTe.out.s.grow HX3.out) (by rw [HLY.out]; omega))
          clear hrb hgb HSF HDY
          go_wp2_with fail
          refine HSM.out.mono ?_
          intro e x4 hpost
          obtain ⟨he, hg⟩ := hpost
          subst he
          have HX4 := Lib.hid (Grow.trans HG7.out (Grow.trans HTe.out.grow (Grow.trans HX3.out hg)))
          clear hg HSM
          go_wp2_with fail
          go_ret
          exact ⟨rfl, HX4.out⟩
    · by_cases hp3 : (m : Int) + 3 ≤ p
      · have hA3 : doneK p cs = m + 3 := by unfold doneK; rw [if_pos (.inr (by rw [← HM.out]; exact hp3)), HM.out]
        have dp : decide ((0 : Int) ≤ p) = true := by simp; omega
        have dp2 : decide (p < (A : Int)) = false := by have hA := HA3.out; simp; omega
        have hf : f = 0 := by rw [HDR.out.is, hA3, if_pos (by rw [HM.out])]
        have hd : d' = stK N p cs hb (cs.length + 3) := by rw [HDR.out.st, hA3]; rw [HM.out]
        subst hf hd
        have HST := Lib.hid (stK_3 N p cs hb)
        have HAC := Lib.hid (show Calls Try.prog 28 #[.pointer (some ⟨B, 0, none⟩)] w7 fun e w' => e = .returned (.int .i64 (A : Int)) ∧ w7 = w' by
          have := acts_any HD7.out
          rwa [HST.out.2.2, ← HM.out, ← HA3.out] at this)
        have ea : ((A : Int) == (A : Int)) = true := by simp
        have eb : ((A : Int) != (A : Int)) = false := by simp
        clear hA3
        go_wp2_with fail
        refine HAC.out.mono ?_
        intro e w' hpost
        obtain ⟨he, hw⟩ := hpost
        subst he hw
        go_upto_region 18 with (fail)
        refine does_reg18 N w7 hN2 _ _ _ _ _ _ _ _ _ _ _ _ _ _ _ _ _ _ _ _ _ _ _ _ _ _ _ _ _ _ _ _ _ _ _ _ _ _ _ _ _ _ _ _ _ _ _ _ _ _ _ _ _ _ _ _ _ _ _ _ _ _ _ _ _ _ _ _ _ _ _ _ _ _ _ _ _ _ _ _ _ _ _ _ _ _ _ _ _ _ _ _ _ _ _ _ _ _ _ _ _ _ _ _ _ _ _ _ _ _ _ _ _ _ _ _ _ _ _ _ _ _ _ _ _ _ _ _ _ _ _ _ _ _ _ _ _ _ _ _ _ _ _ _ _ _ _ _ _ _ _ _ _ _ _ _ _ _ _ _ _ _ _ (Lib.hid ?hdoesreg183)
        intro u100 u102 gs gn W8 hne hls hln hbs hbn hg8
        have HT8 := Lib.hid (show TwoB w7 N gs gn (zerosL N) (applyW (zerosL N) (wsOf (cs.take 0))) W8 from ⟨hg8, hbs, by rw [List.take_zero]; exact hbn, hne, hls, hln⟩)
        clear hne hls hln hbs hbn hg8
        go_wp2_with fail
        go_loopw [21] (fun t21 wr => ∃ i : Nat, t21 = .int .i64 (i : Int) ∧ i ≤ m ∧ Hid (TwoB w7 N gs gn (zerosL N) (applyW (zerosL N) (wsOf (cs.take i))) wr)) (fun t21 _ => m - (intOf t21).toNat)
        case atStart => exact ⟨0, by go_num, by omega, HT8⟩
        case round =>
          obtain ⟨i, rfl, hiJ, HI⟩ := hrel
          clear HT8
          by_cases hi : i < m
          · have him : i < m := by omega
            obtain ⟨c, hck⟩ : ∃ c, cs[i]? = some c := ⟨cs[i]'(by rw [← HM.out]; exact him), by simp⟩
            have hck2 : (cs ++ [(2, hb)])[i]? = some c := by rw [List.getElem?_append_left (by rw [← HM.out]; exact him)]; exact hck
            have hrow := HC7.out.grow HI.out.grow
            obtain ⟨gc, cc', hvg, hgc⟩ := hrow.open_ (by simp)
            rw [List.length_append, ← HM.out, List.length_singleton, ← HQ.out] at hvg
            cases hvg
            have hrg := hrow.range hck2
            have HCI := Lib.hid (HIN.out.2 c (List.mem_of_getElem? hck))
            obtain ⟨b, hbb⟩ : ∃ b : Nat, c.1 = (b : Int) := ⟨c.1.toNat, by have := HCI.out.1; omega⟩
            have hbn : b < N := by have := HCI.out.2.1; omega
            have HCB := Lib.hid (show gc < wr.heap.size ∧ wr.cell? ⟨gc, i * 257, none⟩ = some (.int .i64 (b : Int)) from ⟨hgc, by have := hrg 0 (.int .i64 c.1) rfl; rw [hbb] at this; exact this⟩)
            have HRD := Lib.hid (show gc < wr.heap.size ∧ wr.rangeAt gc (i * 257 + 1) (bc c.2) from ⟨hgc, fun j u hj => by have := hrg (j + 1) u hj; rw [show i * 257 + (j + 1) = i * 257 + 1 + j by omega] at this; exact this⟩)
            have HC2 := Lib.hid HCI.out.2.2
            have HLN := Lib.hid (app_len N (cs.take i))
            have HTH := Lib.hid (show ∀ w', Touch [] wr w' → w'.there gn (b * 256) (bc c.2).toArray.size from fun w' ht => by
              rw [show (bc c.2).toArray.size = 256 by rw [List.size_toArray, bc_length, HC2.out]]
              exact Row.there (HI.out.n.grow (ht.below (Nat.le_refl _) (by simp))) (by rw [List.length_map, HLN.out]; exact hbn))
            have HI2 := Lib.hid (show ∀ w', Touch [] wr w' → TwoB w7 N gs gn (zerosL N) (applyW (zerosL N) (wsOf (cs.take (i + 1)))) (w'.setCells gn (b * 256) (bc c.2)) from fun w' ht => by
              have h1 := (HI.out.later (ht.below (Nat.le_refl _) (by simp))).stored HC2.out b (by rw [HLN.out]; exact hbn)
              rw [List.take_add_one, hck, show (some c : Option Cp).toList = [c] from rfl, ← putB_apply N (cs.take i) HCI.out.1 HCI.out.2.1]
              unfold putB
              rw [HLN.out, if_pos ⟨HCI.out.1, HCI.out.2.1⟩, show c.1.toNat = b by omega]
              exact h1)
            have dm : decide ((i : Int) < (m : Int)) = true := by simp; omega
            have dk : decide ((i : Int) < (A : Int)) = true := by have hA := HA3.out; simp; omega
            have dkn : i < A := by have hA := HA3.out; omega
            clear hck hck2 hrow hgc hrg hbb
            go_upto_region 23 with (fail)
            refine does_reg23 i q gc k16 gn N N b c wr (by have hq := HQ.out; omega) (by have hq := HQ.out; omega) hbn (by omega) HCB HRD HC2 HTH _ _ _ _ _ _ _ _ _ _ _ _ _ _ _ _ _ _ _ _ _ _ _ _ _ _ _ _ _ _ _ _ _ _ _ _ _ _ _ _ _ _ _ _ _ _ _ _ _ _ _ _ _ _ _ _ _ _ _ _ _ _ _ _ _ _ _ _ _ _ _ _ _ _ _ _ _ _ _ _ _ _ _ _ _ _ _ _ _ _ _ _ _ _ _ _ _ _ _ _ _ _ _ _ _ _ _ _ _ _ _ _ _ _ _ _ _ _ _ _ _ _ _ _ _ _ _ _ _ _ _ _ _ _ _ _ _ _ _ _ _ _ _ _ _ _ _ _ _ _ _ _ _ _ _ _ _ _ _ _ _ (Lib.hid ?hdoesreg234)
            intro u117 u118 u119 u120 u121 u122 u123 u124 u125 u126 u127 u128 W2 hRW2
            have HI3 := Lib.hid (HI2.out W2 hRW2)
            clear hRW2
            go_wp2
            go_roundw
            case rel => exact ⟨i + 1, by go_num, by omega, HI3⟩
            case measure => simp [intOf]; omega
          · obtain rfl : m = i := by omega
            have HTn := Lib.hid (show TwoB w7 N gs gn (zerosL N) (applyW (zerosL N) (wsOf cs)) wr by have := HI.out; rwa [HM.out, List.take_length] at this)
            have dm : decide ((m : Int) < (m : Int)) = false := by simp
            clear HI
            have HLZ := Lib.hid (show ((applyW (zerosL N) (wsOf cs)).set 2 hb).length = N by rw [List.length_set, app_len])
            have HLY := HLZ
            have g1 : decide ((m : Int) < (A : Int)) = true := by have hA := HA3.out; simp; omega
            have g2 : decide ((m : Int) + 1 < (A : Int)) = true := by have hA := HA3.out; simp; omega
            have g3 : decide ((m : Int) + 2 < (A : Int)) = true := by have hA := HA3.out; simp; omega
            have n0 : m < A := by have hA := HA3.out; omega
            have i0 : (m : Int) < (A : Int) := by have hA := HA3.out; omega
            have n1 : m + 1 < A := by have hA := HA3.out; omega
            have i1 : (m : Int) + 1 < (A : Int) := by have hA := HA3.out; omega
            have n2 : m + 2 < A := by have hA := HA3.out; omega
            have i2 : (m : Int) + 2 < (A : Int) := by have hA := HA3.out; omega
            obtain ⟨wc, hwc⟩ : ∃ wc, wc = wr.setCells gs 0 ((applyW (zerosL N) (wsOf cs)).map bc).flatten := ⟨_, rfl⟩
            have hcp := copy_run HTn.out.s HTn.out.n (by unfold zerosL; simp) (app_len N cs) 3
            rw [← hwc] at hcp
            have HTc := Lib.hid (show TwoB w7 N gs gn (applyW (zerosL N) (wsOf cs)) (applyW (zerosL N) (wsOf cs)) wc by rw [hwc]; exact HTn.out.copied (copied HTn.out.s (fun x hx => BRow.blk HTn.out.n hx) (by unfold zerosL; simp) (app_len N cs)) (touch_setCells (by simp) _ _ _))
            clear hwc HTn
            go_upto_region 26 with (fail)
            clear hcp
            have hrow := HC7.out.grow HTc.out.grow
            obtain ⟨gc, cc', hvg, hgc⟩ := hrow.open_ (by simp)
            rw [List.length_append, ← HM.out, List.length_singleton, ← HQ.out] at hvg
            cases hvg
            have hrg := hrow.range (k := m) (c := (2, hb)) (by rw [List.getElem?_append_right (by rw [HM.out]; exact Nat.le_refl _), HM.out, Nat.sub_self]; rfl)
            have HRD := Lib.hid (show wc.rangeAt gc (m * 257 + 1) (bc hb) from fun j u hj => by have := hrg (j + 1) u hj; rw [show m * 257 + (j + 1) = m * 257 + 1 + j by omega] at this; exact this)
            have HTH := Lib.hid (show wc.there gn 512 (bc hb).toArray.size by
              rw [show (bc hb).toArray.size = 256 by rw [List.size_toArray, bc_length, HBL.out]]
              exact Row.there HTc.out.n (i := 2) (by rw [List.length_map, app_len]; exact HN2.out))
            have HTs := Lib.hid (show TwoB w7 N gs gn (applyW (zerosL N) (wsOf cs)) ((applyW (zerosL N) (wsOf cs)).set 2 hb) (wc.setCells gn 512 (bc hb)) from HTc.out.stored HBL.out 2 (by rw [app_len]; exact HN2.out))
            have b0 : (0 : Int) ≤ (m : Int) := by omega
            have b1 : (m : Int) < (q : Int) := by have hq := HQ.out; omega
            have b2 : (2 : Int) < (N : Int) := by have := HN2.out; omega
            have HSB := Lib.hid (bsizeL HBL.out)
            have HSB2 := Lib.hid (bsize HBL.out)
            clear hrow hgc hrg
            go_upto_region 28 with (first | (refine wpList_load_mid rfl 29 _ rfl gc (m * 257 + 1) rfl (bc hb) _ HRD.out Try.underlying29 rfl HSB.out ?_) | (refine wpList_store_mid rfl 29 _ _ rfl gn 512 (bc hb).toArray rfl rfl HTH.out HSB2.out (all_oneCell_toArray (bc_one _)) ?_))
            clear HRD HTH HTc
            generalize wc.setCells gn 512 (bc hb) = wd at *
            obtain ⟨we, hwe⟩ : ∃ we, we = wd.setCells gs 0 (((applyW (zerosL N) (wsOf cs)).set 2 hb).map bc).flatten := ⟨_, rfl⟩
            have hcp := copy_run HTs.out.s HTs.out.n (app_len N cs) (by rw [List.length_set]; exact app_len N cs) 3
            rw [← hwe] at hcp
            have HTe := Lib.hid (show TwoB w7 N gs gn ((applyW (zerosL N) (wsOf cs)).set 2 hb) ((applyW (zerosL N) (wsOf cs)).set 2 hb) we by rw [hwe]; exact HTs.out.copied (copied HTs.out.s (fun x hx => BRow.blk HTs.out.n hx) (app_len N cs) (by rw [List.length_set]; exact app_len N cs)) (touch_setCells (by simp) _ _ _))
            clear hwe HTs
            go_upto_region 30 with (fail)
            clear hcp
            have HDE := Lib.hid (HD7.out.kept (Touch.of_below (S := []) HTe.out.grow) (by simp))
            have HIM := Lib.hid (image_ok HDE.out)
            rw [HST.out.1] at HIM
            go_wp2_with fail
            clear g1 g2 g3 n0 n1 n2 i0 i1 i2
            refine HIM.out.mono ?_
            intro e x1 hpost
            obtain ⟨ga, ka, he, hra, _, hga⟩ := hpost
            subst he
            rw [HLZ.out] at hra ⊢
            have HX1 := Lib.hid hga
            have HSM := Lib.hid (sameb_ok (show BRow x1 _ _ from hra) (HTe.out.n.grow hga) (by rw [HLZ.out]; omega))
            have HDX := Lib.hid (HDE.out.kept (Touch.of_below (S := []) hga) (by simp))
            clear hra hga HIM
            go_wp2_with fail
            refine HSM.out.mono ?_
            intro e x2 hpost
            obtain ⟨he, hg⟩ := hpost
            subst he
            have HX2 := Lib.hid (Grow.trans HX1.out hg)
            have HDY := Lib.hid (HDX.out.kept (Touch.of_below (S := []) hg) (by simp))
            have HSF := Lib.hid (safe_ok HDY.out)
            rw [HST.out.2.1] at HSF
            clear hg HSM HDX
            go_wp2_with fail
            refine HSF.out.mono ?_
            intro e x3 hpost
            obtain ⟨gb, kb, he, hrb, _, hgb⟩ := hpost
            subst he
            rw [HLY.out] at hrb ⊢
            have HX3 := Lib.hid (Grow.trans HX2.out hgb)
            have HSM := Lib.hid (sameb_ok (show BRow x3 _ _ from hrb) (HTe.out.s.grow HX3.out) (by rw [HLY.out]; omega))
            clear hrb hgb HSF HDY
            go_wp2_with fail
            refine HSM.out.mono ?_
            intro e x4 hpost
            obtain ⟨he, hg⟩ := hpost
            subst he
            have HX4 := Lib.hid (Grow.trans HG7.out (Grow.trans HTe.out.grow (Grow.trans HX3.out hg)))
            clear hg HSM
            go_wp2_with fail
            go_ret
            exact ⟨rfl, HX4.out⟩
      · obtain ⟨K, hK⟩ : ∃ K : Nat, p = (K : Int) := ⟨p.toNat, by omega⟩
        subst hK
        have hK3 : K < m + 3 := by omega
        have hA3 : doneK (K : Int) cs = K := by unfold doneK; rw [if_neg (by rw [← HM.out]; omega)]; simp
        have dp : decide ((0 : Int) ≤ (K : Int)) = true := by simp
        have dp2 : decide ((K : Int) < (A : Int)) = true := by have hA := HA3.out; simp; omega
        have hf : f = 30 := by rw [HDR.out.is, hA3, if_neg (by rw [← HM.out]; omega)]
        have hd : d' = stK N (K : Int) cs hb K := by rw [HDR.out.st, hA3]
        subst hf hd
        have hac : (stK N (K : Int) cs hb K).acts = (K : Int) := by
          rcases Nat.lt_or_ge cs.length K with h | h
          · rcases Nat.lt_or_ge (cs.length + 1) K with h2 | h2
            · have e : K = cs.length + 2 := by rw [← HM.out]; rw [← HM.out] at h2; omega
              rw [e]; exact (stK_2 N _ cs hb).2.2
            · have e : K = cs.length + 1 := by omega
              rw [e]; exact (stK_1 N _ cs hb).2.2
          · exact (stK_last N _ cs hb h).2.2
        have HACC := Lib.hid hac
        have HAC := Lib.hid (show Calls Try.prog 28 #[.pointer (some ⟨B, 0, none⟩)] w7 fun e w' => e = .returned (.int .i64 (K : Int)) ∧ w7 = w' by
          have := acts_any HD7.out
          rwa [hac] at this)
        have en : ¬ K = A := by have hA := HA3.out; omega
        have en2 : K < A := by have hA := HA3.out; omega
        have ea : ((K : Int) == (A : Int)) = false := by have hA := HA3.out; simp; omega
        have eb : ((K : Int) != (K : Int)) = false := by simp
        clear hA3 hac
        go_wp2_with fail
        refine HAC.out.mono ?_
        intro e w' hpost
        obtain ⟨he, hw⟩ := hpost
        subst he hw
        go_upto_region 18 with (fail)
        refine does_reg18 N w7 hN2 _ _ _ _ _ _ _ _ _ _ _ _ _ _ _ _ _ _ _ _ _ _ _ _ _ _ _ _ _ _ _ _ _ _ _ _ _ _ _ _ _ _ _ _ _ _ _ _ _ _ _ _ _ _ _ _ _ _ _ _ _ _ _ _ _ _ _ _ _ _ _ _ _ _ _ _ _ _ _ _ _ _ _ _ _ _ _ _ _ _ _ _ _ _ _ _ _ _ _ _ _ _ _ _ _ _ _ _ _ _ _ _ _ _ _ _ _ _ _ _ _ _ _ _ _ _ _ _ _ _ _ _ _ _ _ _ _ _ _ _ _ _ _ _ _ _ _ _ _ _ _ _ _ _ _ _ _ _ _ _ _ _ _ (Lib.hid ?hdoesreg185)
        intro u100 u102 gs gn W8 hne hls hln hbs hbn hg8
        have HT8 := Lib.hid (show TwoB w7 N gs gn (zerosL N) (applyW (zerosL N) (wsOf (cs.take 0))) W8 from ⟨hg8, hbs, by rw [List.take_zero]; exact hbn, hne, hls, hln⟩)
        clear hne hls hln hbs hbn hg8
        go_wp2_with fail
        obtain ⟨J, hJ⟩ : ∃ J, J = min m K := ⟨_, rfl⟩
        have HJ := Lib.hid hJ
        have hjm : J ≤ m := by omega
        have hjk : J ≤ K := by omega
        clear hJ
        go_loopw [21] (fun t21 wr => ∃ i : Nat, t21 = .int .i64 (i : Int) ∧ i ≤ J ∧ Hid (TwoB w7 N gs gn (zerosL N) (applyW (zerosL N) (wsOf (cs.take i))) wr)) (fun t21 _ => J - (intOf t21).toNat)
        case atStart => exact ⟨0, by go_num, by omega, HT8⟩
        case round =>
          obtain ⟨i, rfl, hiJ, HI⟩ := hrel
          clear HT8
          by_cases hi : i < J
          · have him : i < m := by omega
            obtain ⟨c, hck⟩ : ∃ c, cs[i]? = some c := ⟨cs[i]'(by rw [← HM.out]; exact him), by simp⟩
            have hck2 : (cs ++ [(2, hb)])[i]? = some c := by rw [List.getElem?_append_left (by rw [← HM.out]; exact him)]; exact hck
            have hrow := HC7.out.grow HI.out.grow
            obtain ⟨gc, cc', hvg, hgc⟩ := hrow.open_ (by simp)
            rw [List.length_append, ← HM.out, List.length_singleton, ← HQ.out] at hvg
            cases hvg
            have hrg := hrow.range hck2
            have HCI := Lib.hid (HIN.out.2 c (List.mem_of_getElem? hck))
            obtain ⟨b, hbb⟩ : ∃ b : Nat, c.1 = (b : Int) := ⟨c.1.toNat, by have := HCI.out.1; omega⟩
            have hbn : b < N := by have := HCI.out.2.1; omega
            have HCB := Lib.hid (show gc < wr.heap.size ∧ wr.cell? ⟨gc, i * 257, none⟩ = some (.int .i64 (b : Int)) from ⟨hgc, by have := hrg 0 (.int .i64 c.1) rfl; rw [hbb] at this; exact this⟩)
            have HRD := Lib.hid (show gc < wr.heap.size ∧ wr.rangeAt gc (i * 257 + 1) (bc c.2) from ⟨hgc, fun j u hj => by have := hrg (j + 1) u hj; rw [show i * 257 + (j + 1) = i * 257 + 1 + j by omega] at this; exact this⟩)
            have HC2 := Lib.hid HCI.out.2.2
            have HLN := Lib.hid (app_len N (cs.take i))
            have HTH := Lib.hid (show ∀ w', Touch [] wr w' → w'.there gn (b * 256) (bc c.2).toArray.size from fun w' ht => by
              rw [show (bc c.2).toArray.size = 256 by rw [List.size_toArray, bc_length, HC2.out]]
              exact Row.there (HI.out.n.grow (ht.below (Nat.le_refl _) (by simp))) (by rw [List.length_map, HLN.out]; exact hbn))
            have HI2 := Lib.hid (show ∀ w', Touch [] wr w' → TwoB w7 N gs gn (zerosL N) (applyW (zerosL N) (wsOf (cs.take (i + 1)))) (w'.setCells gn (b * 256) (bc c.2)) from fun w' ht => by
              have h1 := (HI.out.later (ht.below (Nat.le_refl _) (by simp))).stored HC2.out b (by rw [HLN.out]; exact hbn)
              rw [List.take_add_one, hck, show (some c : Option Cp).toList = [c] from rfl, ← putB_apply N (cs.take i) HCI.out.1 HCI.out.2.1]
              unfold putB
              rw [HLN.out, if_pos ⟨HCI.out.1, HCI.out.2.1⟩, show c.1.toNat = b by omega]
              exact h1)
            have dm : decide ((i : Int) < (m : Int)) = true := by simp; omega
            have dk : decide ((i : Int) < (K : Int)) = true := by have hA := HA3.out; simp; omega
            have dkn : i < K := by have hA := HA3.out; omega
            clear hck hck2 hrow hgc hrg hbb
            go_upto_region 23 with (fail)
            refine does_reg23 i q gc k16 gn N N b c wr (by have hq := HQ.out; omega) (by have hq := HQ.out; omega) hbn (by omega) HCB HRD HC2 HTH _ _ _ _ _ _ _ _ _ _ _ _ _ _ _ _ _ _ _ _ _ _ _ _ _ _ _ _ _ _ _ _ _ _ _ _ _ _ _ _ _ _ _ _ _ _ _ _ _ _ _ _ _ _ _ _ _ _ _ _ _ _ _ _ _ _ _ _ _ _ _ _ _ _ _ _ _ _ _ _ _ _ _ _ _ _ _ _ _ _ _ _ _ _ _ _ _ _ _ _ _ _ _ _ _ _ _ _ _ _ _ _ _ _ _ _ _ _ _ _ _ _ _ _ _ _ _ _ _ _ _ _ _ _ _ _ _ _ _ _ _ _ _ _ _ _ _ _ _ _ _ _ _ _ _ _ _ _ _ _ _ (Lib.hid ?hdoesreg236)
            intro u117 u118 u119 u120 u121 u122 u123 u124 u125 u126 u127 u128 W2 hRW2
            have HI3 := Lib.hid (HI2.out W2 hRW2)
            clear hRW2
            go_wp2
            go_roundw
            case rel => exact ⟨i + 1, by go_num, by omega, HI3⟩
            case measure => simp [intOf]; omega
          · obtain rfl : J = i := by omega
            clear HACC
            rcases Nat.lt_or_ge m K with hmk | hmk
            · obtain rfl : m = J := by have hJ := HJ.out; omega
              have HTn := Lib.hid (show TwoB w7 N gs gn (zerosL N) (applyW (zerosL N) (wsOf cs)) wr by have := HI.out; rwa [HM.out, List.take_length] at this)
              have dm : decide ((m : Int) < (m : Int)) = false := by simp
              clear HI
              by_cases hk1 : K = m + 1
              · have HST := Lib.hid (stK_1 N (K : Int) cs hb)
                rw [← HM.out, ← hk1] at HST
                have HLZ := Lib.hid (show (applyW (zerosL N) (wsOf cs)).length = N by rw [app_len])
                have HLY := HLZ
                have g1 : decide ((m : Int) < (K : Int)) = true := by have hA := HA3.out; simp; omega
                have g2 : decide ((m : Int) + 1 < (K : Int)) = false := by have hA := HA3.out; simp; omega
                have g3 : decide ((m : Int) + 2 < (K : Int)) = false := by have hA := HA3.out; simp; omega
                have n0 : m < K := by have hA := HA3.out; omega
                have i0 : (m : Int) < (K : Int) := by have hA := HA3.out; omega
                have n1 : ¬ m + 1 < K := by have hA := HA3.out; omega
                have i1 : ¬ (m : Int) + 1 < (K : Int) := by have hA := HA3.out; omega
                have n2 : ¬ m + 2 < K := by have hA := HA3.out; omega
                have i2 : ¬ (m : Int) + 2 < (K : Int) := by have hA := HA3.out; omega
                clear hk1
                obtain ⟨wc, hwc⟩ : ∃ wc, wc = wr.setCells gs 0 ((applyW (zerosL N) (wsOf cs)).map bc).flatten := ⟨_, rfl⟩
                have hcp := copy_run HTn.out.s HTn.out.n (by unfold zerosL; simp) (app_len N cs) 3
                rw [← hwc] at hcp
                have HTc := Lib.hid (show TwoB w7 N gs gn (applyW (zerosL N) (wsOf cs)) (applyW (zerosL N) (wsOf cs)) wc by rw [hwc]; exact HTn.out.copied (copied HTn.out.s (fun x hx => BRow.blk HTn.out.n hx) (by unfold zerosL; simp) (app_len N cs)) (touch_setCells (by simp) _ _ _))
                clear hwc HTn
                go_upto_region 26 with (fail)
                clear hcp
                have HDE := Lib.hid (HD7.out.kept (Touch.of_below (S := []) HTc.out.grow) (by simp))
                have HIM := Lib.hid (image_ok HDE.out)
                rw [HST.out.1] at HIM
                go_wp2_with fail
                clear g1 g2 g3 n0 n1 n2 i0 i1 i2
                refine HIM.out.mono ?_
                intro e x1 hpost
                obtain ⟨ga, ka, he, hra, _, hga⟩ := hpost
                subst he
                rw [HLZ.out] at hra ⊢
                have HX1 := Lib.hid hga
                have HSM := Lib.hid (sameb_ok (show BRow x1 _ _ from hra) (HTc.out.n.grow hga) (by rw [HLZ.out]; omega))
                have HDX := Lib.hid (HDE.out.kept (Touch.of_below (S := []) hga) (by simp))
                clear hra hga HIM
                go_wp2_with fail
                refine HSM.out.mono ?_
                intro e x2 hpost
                obtain ⟨he, hg⟩ := hpost
                subst he
                have HX2 := Lib.hid (Grow.trans HX1.out hg)
                have HDY := Lib.hid (HDX.out.kept (Touch.of_below (S := []) hg) (by simp))
                have HSF := Lib.hid (safe_ok HDY.out)
                rw [HST.out.2.1] at HSF
                clear hg HSM HDX
                go_wp2_with fail
                refine HSF.out.mono ?_
                intro e x3 hpost
                obtain ⟨gb, kb, he, hrb, _, hgb⟩ := hpost
                subst he
                rw [HLY.out] at hrb ⊢
                have HX3 := Lib.hid (Grow.trans HX2.out hgb)
                have HSM := Lib.hid (sameb_ok (show BRow x3 _ _ from hrb) (HTc.out.s.grow HX3.out) (by rw [HLY.out]; omega))
                clear hrb hgb HSF HDY
                go_wp2_with fail
                refine HSM.out.mono ?_
                intro e x4 hpost
                obtain ⟨he, hg⟩ := hpost
                subst he
                have HX4 := Lib.hid (Grow.trans HG7.out (Grow.trans HTc.out.grow (Grow.trans HX3.out hg)))
                clear hg HSM
                go_wp2_with fail
                go_ret
                exact ⟨rfl, HX4.out⟩
              · have hk2 : K = m + 2 := by omega
                have HST := Lib.hid (stK_2 N (K : Int) cs hb)
                rw [← HM.out, ← hk2] at HST
                have HLZ := Lib.hid (show ((applyW (zerosL N) (wsOf cs)).set 2 hb).length = N by rw [List.length_set, app_len])
                have HLY := Lib.hid (show (applyW (zerosL N) (wsOf cs)).length = N by rw [app_len])
                have g1 : decide ((m : Int) < (K : Int)) = true := by have hA := HA3.out; simp; omega
                have g2 : decide ((m : Int) + 1 < (K : Int)) = true := by have hA := HA3.out; simp; omega
                have g3 : decide ((m : Int) + 2 < (K : Int)) = false := by have hA := HA3.out; simp; omega
                have n0 : m < K := by have hA := HA3.out; omega
                have i0 : (m : Int) < (K : Int) := by have hA := HA3.out; omega
                have n1 : m + 1 < K := by have hA := HA3.out; omega
                have i1 : (m : Int) + 1 < (K : Int) := by have hA := HA3.out; omega
                have n2 : ¬ m + 2 < K := by have hA := HA3.out; omega
                have i2 : ¬ (m : Int) + 2 < (K : Int) := by have hA := HA3.out; omega
                clear hk1 hk2
                obtain ⟨wc, hwc⟩ : ∃ wc, wc = wr.setCells gs 0 ((applyW (zerosL N) (wsOf cs)).map bc).flatten := ⟨_, rfl⟩
                have hcp := copy_run HTn.out.s HTn.out.n (by unfold zerosL; simp) (app_len N cs) 3
                rw [← hwc] at hcp
                have HTc := Lib.hid (show TwoB w7 N gs gn (applyW (zerosL N) (wsOf cs)) (applyW (zerosL N) (wsOf cs)) wc by rw [hwc]; exact HTn.out.copied (copied HTn.out.s (fun x hx => BRow.blk HTn.out.n hx) (by unfold zerosL; simp) (app_len N cs)) (touch_setCells (by simp) _ _ _))
                clear hwc HTn
                go_upto_region 26 with (fail)
                clear hcp
                have hrow := HC7.out.grow HTc.out.grow
                obtain ⟨gc, cc', hvg, hgc⟩ := hrow.open_ (by simp)
                rw [List.length_append, ← HM.out, List.length_singleton, ← HQ.out] at hvg
                cases hvg
                have hrg := hrow.range (k := m) (c := (2, hb)) (by rw [List.getElem?_append_right (by rw [HM.out]; exact Nat.le_refl _), HM.out, Nat.sub_self]; rfl)
                have HRD := Lib.hid (show wc.rangeAt gc (m * 257 + 1) (bc hb) from fun j u hj => by have := hrg (j + 1) u hj; rw [show m * 257 + (j + 1) = m * 257 + 1 + j by omega] at this; exact this)
                have HTH := Lib.hid (show wc.there gn 512 (bc hb).toArray.size by
                  rw [show (bc hb).toArray.size = 256 by rw [List.size_toArray, bc_length, HBL.out]]
                  exact Row.there HTc.out.n (i := 2) (by rw [List.length_map, app_len]; exact HN2.out))
                have HTs := Lib.hid (show TwoB w7 N gs gn (applyW (zerosL N) (wsOf cs)) ((applyW (zerosL N) (wsOf cs)).set 2 hb) (wc.setCells gn 512 (bc hb)) from HTc.out.stored HBL.out 2 (by rw [app_len]; exact HN2.out))
                have b0 : (0 : Int) ≤ (m : Int) := by omega
                have b1 : (m : Int) < (q : Int) := by have hq := HQ.out; omega
                have b2 : (2 : Int) < (N : Int) := by have := HN2.out; omega
                have HSB := Lib.hid (bsizeL HBL.out)
                have HSB2 := Lib.hid (bsize HBL.out)
                clear hrow hgc hrg
                go_upto_region 28 with (first | (refine wpList_load_mid rfl 29 _ rfl gc (m * 257 + 1) rfl (bc hb) _ HRD.out Try.underlying29 rfl HSB.out ?_) | (refine wpList_store_mid rfl 29 _ _ rfl gn 512 (bc hb).toArray rfl rfl HTH.out HSB2.out (all_oneCell_toArray (bc_one _)) ?_))
                clear HRD HTH HTc
                generalize wc.setCells gn 512 (bc hb) = wd at *
                have HDE := Lib.hid (HD7.out.kept (Touch.of_below (S := []) HTs.out.grow) (by simp))
                have HIM := Lib.hid (image_ok HDE.out)
                rw [HST.out.1] at HIM
                go_wp2_with fail
                clear g1 g2 g3 n0 n1 n2 i0 i1 i2
                refine HIM.out.mono ?_
                intro e x1 hpost
                obtain ⟨ga, ka, he, hra, _, hga⟩ := hpost
                subst he
                rw [HLZ.out] at hra ⊢
                have HX1 := Lib.hid hga
                have HSM := Lib.hid (sameb_ok (show BRow x1 _ _ from hra) (HTs.out.n.grow hga) (by rw [HLZ.out]; omega))
                have HDX := Lib.hid (HDE.out.kept (Touch.of_below (S := []) hga) (by simp))
                clear hra hga HIM
                go_wp2_with fail
                refine HSM.out.mono ?_
                intro e x2 hpost
                obtain ⟨he, hg⟩ := hpost
                subst he
                have HX2 := Lib.hid (Grow.trans HX1.out hg)
                have HDY := Lib.hid (HDX.out.kept (Touch.of_below (S := []) hg) (by simp))
                have HSF := Lib.hid (safe_ok HDY.out)
                rw [HST.out.2.1] at HSF
                clear hg HSM HDX
                go_wp2_with fail
                refine HSF.out.mono ?_
                intro e x3 hpost
                obtain ⟨gb, kb, he, hrb, _, hgb⟩ := hpost
                subst he
                rw [HLY.out] at hrb ⊢
                have HX3 := Lib.hid (Grow.trans HX2.out hgb)
                have HSM := Lib.hid (sameb_ok (show BRow x3 _ _ from hrb) (HTs.out.s.grow HX3.out) (by rw [HLY.out]; omega))
                clear hrb hgb HSF HDY
                go_wp2_with fail
                refine HSM.out.mono ?_
                intro e x4 hpost
                obtain ⟨he, hg⟩ := hpost
                subst he
                have HX4 := Lib.hid (Grow.trans HG7.out (Grow.trans HTs.out.grow (Grow.trans HX3.out hg)))
                clear hg HSM
                go_wp2_with fail
                go_ret
                exact ⟨rfl, HX4.out⟩
            · obtain rfl : K = J := by have hJ := HJ.out; omega
              have HTn := Lib.hid (show TwoB w7 N gs gn (zerosL N) (applyW (zerosL N) (wsOf (cs.take K))) wr from HI.out)
              have dk : decide ((K : Int) < (K : Int)) = false := by simp
              clear HI
              have HST := Lib.hid (stK_last N (K : Int) cs hb (k := K) (by rw [← HM.out]; exact hmk))
              have HLZ := Lib.hid (show (applyW (zerosL N) (wsOf (cs.take K))).length = N by rw [app_len])
              have HLY := Lib.hid (show (zerosL N).length = N by unfold zerosL; rw [List.length_replicate])
              by_cases hkm : K = m
              · have dm : decide ((K : Int) < (m : Int)) = false := by simp; omega
                have nm : ¬ K < m := by omega
                clear hkm
                have g1 : decide ((m : Int) < (K : Int)) = false := by have hA := HA3.out; simp; omega
                have g2 : decide ((m : Int) + 1 < (K : Int)) = false := by have hA := HA3.out; simp; omega
                have g3 : decide ((m : Int) + 2 < (K : Int)) = false := by have hA := HA3.out; simp; omega
                have n0 : ¬ m < K := by have hA := HA3.out; omega
                have i0 : ¬ (m : Int) < (K : Int) := by have hA := HA3.out; omega
                have n1 : ¬ m + 1 < K := by have hA := HA3.out; omega
                have i1 : ¬ (m : Int) + 1 < (K : Int) := by have hA := HA3.out; omega
                have n2 : ¬ m + 2 < K := by have hA := HA3.out; omega
                have i2 : ¬ (m : Int) + 2 < (K : Int) := by have hA := HA3.out; omega
                have HDE := Lib.hid (HD7.out.kept (Touch.of_below (S := []) HTn.out.grow) (by simp))
                have HIM := Lib.hid (image_ok HDE.out)
                rw [HST.out.1] at HIM
                go_wp2_with fail
                clear g1 g2 g3 n0 n1 n2 i0 i1 i2
                refine HIM.out.mono ?_
                intro e x1 hpost
                obtain ⟨ga, ka, he, hra, _, hga⟩ := hpost
                subst he
                rw [HLZ.out] at hra ⊢
                have HX1 := Lib.hid hga
                have HSM := Lib.hid (sameb_ok (show BRow x1 _ _ from hra) (HTn.out.n.grow hga) (by rw [HLZ.out]; omega))
                have HDX := Lib.hid (HDE.out.kept (Touch.of_below (S := []) hga) (by simp))
                clear hra hga HIM
                go_wp2_with fail
                refine HSM.out.mono ?_
                intro e x2 hpost
                obtain ⟨he, hg⟩ := hpost
                subst he
                have HX2 := Lib.hid (Grow.trans HX1.out hg)
                have HDY := Lib.hid (HDX.out.kept (Touch.of_below (S := []) hg) (by simp))
                have HSF := Lib.hid (safe_ok HDY.out)
                rw [HST.out.2.1] at HSF
                clear hg HSM HDX
                go_wp2_with fail
                refine HSF.out.mono ?_
                intro e x3 hpost
                obtain ⟨gb, kb, he, hrb, _, hgb⟩ := hpost
                subst he
                rw [HLY.out] at hrb ⊢
                have HX3 := Lib.hid (Grow.trans HX2.out hgb)
                have HSM := Lib.hid (sameb_ok (show BRow x3 _ _ from hrb) (HTn.out.s.grow HX3.out) (by rw [HLY.out]; omega))
                clear hrb hgb HSF HDY
                go_wp2_with fail
                refine HSM.out.mono ?_
                intro e x4 hpost
                obtain ⟨he, hg⟩ := hpost
                subst he
                have HX4 := Lib.hid (Grow.trans HG7.out (Grow.trans HTn.out.grow (Grow.trans HX3.out hg)))
                clear hg HSM
                go_wp2_with fail
                go_ret
                exact ⟨rfl, HX4.out⟩
              · have dm : decide ((K : Int) < (m : Int)) = true := by simp; omega
                have nm : K < m := by omega
                clear hkm
                have g1 : decide ((m : Int) < (K : Int)) = false := by have hA := HA3.out; simp; omega
                have g2 : decide ((m : Int) + 1 < (K : Int)) = false := by have hA := HA3.out; simp; omega
                have g3 : decide ((m : Int) + 2 < (K : Int)) = false := by have hA := HA3.out; simp; omega
                have n0 : ¬ m < K := by have hA := HA3.out; omega
                have i0 : ¬ (m : Int) < (K : Int) := by have hA := HA3.out; omega
                have n1 : ¬ m + 1 < K := by have hA := HA3.out; omega
                have i1 : ¬ (m : Int) + 1 < (K : Int) := by have hA := HA3.out; omega
                have n2 : ¬ m + 2 < K := by have hA := HA3.out; omega
                have i2 : ¬ (m : Int) + 2 < (K : Int) := by have hA := HA3.out; omega
                have HDE := Lib.hid (HD7.out.kept (Touch.of_below (S := []) HTn.out.grow) (by simp))
                have HIM := Lib.hid (image_ok HDE.out)
                rw [HST.out.1] at HIM
                go_wp2_with fail
                clear g1 g2 g3 n0 n1 n2 i0 i1 i2
                refine HIM.out.mono ?_
                intro e x1 hpost
                obtain ⟨ga, ka, he, hra, _, hga⟩ := hpost
                subst he
                rw [HLZ.out] at hra ⊢
                have HX1 := Lib.hid hga
                have HSM := Lib.hid (sameb_ok (show BRow x1 _ _ from hra) (HTn.out.n.grow hga) (by rw [HLZ.out]; omega))
                have HDX := Lib.hid (HDE.out.kept (Touch.of_below (S := []) hga) (by simp))
                clear hra hga HIM
                go_wp2_with fail
                refine HSM.out.mono ?_
                intro e x2 hpost
                obtain ⟨he, hg⟩ := hpost
                subst he
                have HX2 := Lib.hid (Grow.trans HX1.out hg)
                have HDY := Lib.hid (HDX.out.kept (Touch.of_below (S := []) hg) (by simp))
                have HSF := Lib.hid (safe_ok HDY.out)
                rw [HST.out.2.1] at HSF
                clear hg HSM HDX
                go_wp2_with fail
                refine HSF.out.mono ?_
                intro e x3 hpost
                obtain ⟨gb, kb, he, hrb, _, hgb⟩ := hpost
                subst he
                rw [HLY.out] at hrb ⊢
                have HX3 := Lib.hid (Grow.trans HX2.out hgb)
                have HSM := Lib.hid (sameb_ok (show BRow x3 _ _ from hrb) (HTn.out.s.grow HX3.out) (by rw [HLY.out]; omega))
                clear hrb hgb HSF HDY
                go_wp2_with fail
                refine HSM.out.mono ?_
                intro e x4 hpost
                obtain ⟨he, hg⟩ := hpost
                subst he
                have HX4 := Lib.hid (Grow.trans HG7.out (Grow.trans HTn.out.grow (Grow.trans HX3.out hg)))
                clear hg HSM
                go_wp2_with fail
                go_ret
                exact ⟨rfl, HX4.out⟩
theorem i64_le {a : Int} (w : (Lit.int .i64 a).wf = true) : a ≤ 9223372036854775807 := by
  have : -9223372036854775808 ≤ a ∧ a ≤ 9223372036854775807 := by simpa [Lit.wf, IntKind.min, IntKind.max, IntKind.signed, IntKind.bits] using w
  exact this.2
theorem u32_ge {a : Int} (w : (Lit.int .u32 a).wf = true) : 0 ≤ a := by
  simp [Lit.wf, IntKind.min, IntKind.max, IntKind.signed, IntKind.bits] at w
  omega
theorem does_all (gr sz ni jr blocks : Int) {w : World} {v : Value} {l : List TSh} (h : TShIn w v l) (hl : l.length ≤ 9223372036854775807) (s : Int) (hs : 0 ≤ s) (p : Int) (hp : p ≤ 9223372036854775807) :
    Calls Try.prog 9 #[.agg #[.int .i64 gr, .int .i64 sz, .int .i64 ni, .int .i64 jr], .int .i64 blocks, v, .int .u32 s, .int .i64 p] w fun e w' => e = .returned (.bool true) ∧ Below w.heap.size w w' := by
  obtain ⟨n, rfl⟩ : ∃ n : Nat, s = (n : Int) := ⟨s.toNat, by omega⟩
  exact does_walk gr sz ni jr blocks h hl n p hp
#print axioms does_all
end Go.Proofs.Ytlhhbkpocpnebaa
