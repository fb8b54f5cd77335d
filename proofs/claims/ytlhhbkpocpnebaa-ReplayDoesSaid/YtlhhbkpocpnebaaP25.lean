/- quernref19.copied: the walk. -/
import Derived.Test.YtlhhbkpocpnebaaP25a
set_option linter.unusedVariables false
set_option linter.unusedSimpArgs false
namespace Go.Proofs.Ytlhhbkpocpnebaa
open Go.RowKit Go.Maps

theorem Rising.congr {p q : Int → Bool} {zs : List Int} (h : Rising p zs) (hp : ∀ z, p z = q z) : Rising q zs := ⟨h.lt, fun i => by rw [h.mem i, hp i]⟩
/-- a number on its way to its place -/
def bub (zs : List Int) (j : Nat) (b : Int) : List Int := zs.take j ++ b :: zs.drop j
theorem bub_length {zs : List Int} {j : Nat} (b : Int) (h : j ≤ zs.length) : (bub zs j b).length = zs.length + 1 := by unfold bub; simp; omega
theorem bub_at {zs : List Int} {j : Nat} (b : Int) (h : j ≤ zs.length) : (bub zs j b)[j]? = some b := by
  unfold bub
  rw [List.getElem?_append_right (by rw [List.length_take]; omega), List.length_take, Nat.min_eq_left h, Nat.sub_self]
  rfl
theorem bub_below {zs : List Int} {j k : Nat} (b : Int) (h : j ≤ zs.length) (hk : k < j) : (bub zs j b)[k]? = zs[k]? := by
  unfold bub
  rw [List.getElem?_append_left (by rw [List.length_take]; omega), List.getElem?_take, if_pos hk]
theorem bub_end (zs : List Int) (b : Int) : bub zs zs.length b = zs ++ [b] := by unfold bub; rw [List.take_length, List.drop_length]
theorem bub_swap {zs : List Int} {j : Nat} {b y : Int} (h : zs[j]? = some y) : ((bub zs (j + 1) b).set j b).set (j + 1) y = bub zs j b := by
  have hj := (List.getElem?_eq_some_iff.1 h).1
  have hy := (List.getElem?_eq_some_iff.1 h).2
  unfold bub
  rw [List.take_succ_eq_append_getElem hj, hy, List.append_assoc, List.singleton_append]
  rw [List.set_append_right _ _ (by rw [List.length_take]; omega), List.length_take, Nat.min_eq_left (by omega), Nat.sub_self, List.set_cons_zero]
  rw [List.set_append_right _ _ (by rw [List.length_take]; omega), List.length_take, Nat.min_eq_left (by omega), Nat.add_sub_cancel_left, List.set_cons_succ, List.set_cons_zero]
  rw [List.drop_eq_getElem_cons hj, hy]
theorem bub_rising {p : Int → Bool} {zs : List Int} (h : Rising p zs) {j : Nat} {b : Int} (hj : j ≤ zs.length) (hgt : ∀ x ∈ zs.drop j, b < x) (hlt : ∀ x, j ≠ 0 → zs[j - 1]? = some x → x < b) : Rising (fun z => p z || decide (z = b)) (bub zs j b) where
  lt := by
    unfold bub
    have h0 : (zs.take j ++ zs.drop j).Pairwise (· < ·) := by rw [List.take_append_drop]; exact h.lt
    have h1 := List.pairwise_append.1 h0
    refine List.pairwise_append.2 ⟨h1.1, List.pairwise_cons.2 ⟨hgt, h1.2.1⟩, fun x hx y hy => ?_⟩
    have hxb : x < b := by
      obtain ⟨q, hq, rfl⟩ := List.getElem_of_mem hx
      rw [List.length_take] at hq
      rw [List.getElem_take]
      have hj0 : j ≠ 0 := by omega
      have hl := hlt (zs[j - 1]'(by omega)) hj0 (by simp)
      by_cases e : q = j - 1
      · subst e; exact hl
      · have := List.pairwise_iff_getElem.1 h.lt q (j - 1) (by omega) (by omega) (by omega)
        omega
    rcases List.mem_cons.1 hy with rfl | hy
    · exact hxb
    · have := hgt y hy; omega
  mem := fun i => by
    have h0 := h.mem i
    rw [← List.take_append_drop j zs, List.mem_append] at h0
    unfold bub
    rw [List.mem_append, List.mem_cons]
    simp only [Bool.or_eq_true, decide_eq_true_eq]
    rw [← h0]
    constructor
    · rintro (h | h | h)
      · exact .inl (.inl h)
      · exact .inr h
      · exact .inl (.inr h)
    · rintro ((h | h) | h)
      · exact .inl h
      · exact .inr (.inr h)
      · exact .inr (.inl h)
theorem AInv.later {W : World} {v : Value} {zs : List Int} {wr w' : World} (h : AInv W v zs wr) (hg : Grow wr w') : AInv W v zs w' := ⟨IRow.grow h.row hg, h.lo, Grow.trans h.grow hg⟩
theorem IRow.set {w : World} {g n cap : Nat} {zs : List Int} (h : IRow w (.slice (some ⟨g, 0, none⟩) n cap) zs) {k : Nat} (hk : k < zs.length) (z : Int) : IRow (w.setCell ⟨g, k, none⟩ (.int .i64 z)) (.slice (some ⟨g, 0, none⟩) n cap) (zs.set k z) := by
  have := Row.store h (i := k) (c := icell z) rfl (by rw [List.length_map]; exact hk)
  unfold IRow
  rw [List.map_set]
  rw [Nat.mul_one] at this
  exact this
theorem IRow.heap {w : World} {g n cap : Nat} {zs : List Int} (h : IRow w (.slice (some ⟨g, 0, none⟩) n cap) zs) (hl : 0 < zs.length) : ∃ C t, w.heap[g]? = some (.cells C t) := by
  obtain ⟨g', c', C, hv, _, hh, _⟩ := h.2.2.resolve_left (fun e => by cases e.1)
  cases hv
  exact ⟨C, _, hh⟩
theorem IRow.soft {w : World} {g n cap : Nat} {zs : List Int} (h : IRow w (.slice (some ⟨g, 0, none⟩) n cap) zs) (k : Nat) (hl : 0 < zs.length) : w.frozen? ⟨g, k, none⟩ = false := by
  obtain ⟨g', c', C, hv, _, hh, _⟩ := h.2.2.resolve_left (fun e => by cases e.1)
  cases hv
  exact frozen_at hh k
set_option maxRecDepth 100000 in
set_option maxHeartbeats 16000000 in
theorem copied_ok {w : World} {v : Value} {xs : List TV} {L : List PT} (h : TRow w v xs) (hts : xs.map (·.t) = L) (hl : xs.length ≤ 10000) (hc : copyN L ≤ 100000) : Calls Try.prog 34 #[v] w fun e w' => ∃ v' zs, e = .returned v' ∧ IRow w' v' zs ∧ Rising (fun z => decide (z ∈ allB L)) zs ∧ Grow w w' ∧ zs.length ≤ copyN L := by
  have HS := Lib.hid h
  have HTS := Lib.hid hts
  have HCN := Lib.hid hc
  obtain ⟨a, cap, hv⟩ := h.len
  obtain ⟨m, hm⟩ : ∃ m, m = xs.length := ⟨_, rfl⟩
  have HM := Lib.hid hm
  have HLE := Lib.hid (show m = L.length by rw [hm, ← hts, List.length_map])
  rw [← hm] at hv hl
  subst hv
  obtain ⟨i0, hi0, hz0, hz1, hz2⟩ := info_parts info3
  have HI0 := Lib.hid hi0
  have HA0 := Lib.hid (show ∃ zs, AInv w (.slice none 0 0) zs w ∧ Rising (fun z => decide (z ∈ allB (L.take 0))) zs from ⟨[], ⟨rowNil _ _ _, fun g e => (by cases e), Grow.refl _⟩, rising_none (fun i => by rw [List.take_zero]; exact decide_eq_false (by simp [allB]))⟩)
  clear h hts hc hm hi0
  go_enter Try.func34, Try.ntmps34
  go_wp2_with fail
  go_loopw [3, 4] (fun t3 t4 wr => ∃ i : Nat, t4 = .int .i64 (i : Int) ∧ i ≤ m ∧ (∃ a3 n3 c3, t3 = .slice a3 n3 c3) ∧ Hid (∃ zs, AInv w t3 zs wr ∧ Rising (fun z => decide (z ∈ allB (L.take i))) zs)) (fun _ t4 _ => m - (intOf t4).toNat)
  case atStart => exact ⟨0, by go_num, by omega, ⟨_, _, _, rfl⟩, HA0⟩
  case round =>
    obtain ⟨i, rfl, him, ⟨a3, n3, c3, rfl⟩, HA⟩ := hrel
    clear HA0
    by_cases hi : i < m
    · obtain ⟨x, hx⟩ : ∃ x, xs[i]? = some x := ⟨xs[i]'(by rw [← HM.out]; exact hi), by simp⟩
      have HXT := Lib.hid (show L[i]? = some x.t by rw [← HTS.out, List.getElem?_map, hx]; rfl)
      have HXA := Lib.hid (HS.out.at_ x (List.mem_of_getElem? hx))
      obtain ⟨gt, cap', ac, nc, cc, ar, nr, cr, hv, _, q1, _, hvc, hnc, _, _, _⟩ := HS.out.elem hx
      rw [← HM.out] at hv
      cases hv
      have HVC := Lib.hid hvc
      have HNC := Lib.hid hnc
      have HQ1 := Lib.hid (show w.cell? ⟨gt, i * 3 + 1, none⟩ = some (.slice ac nc cc) by rw [q1, hvc])
      have HGL := Lib.hid (World.block_lt_of_cell? _ _ q1)
      have hncb : nc ≤ 100000 := by
        have h1 := copyN_take HXT.out
        have h2 := copyN_le L (i + 1)
        have h3 := HCN.out
        omega
      have HA1 := Lib.hid (show ∃ zs, AInv w (.slice a3 n3 c3) zs wr ∧ Rising (fun z => decide (z ∈ allB (L.take i) ++ (x.t.cs.take 0).map (·.1))) zs by rw [List.take_zero, List.map_nil, List.append_nil]; exact HA.out)
      clear hx q1 hvc hnc
      obtain ⟨wo, rfl⟩ : ∃ wo : World, wo = wr := ⟨_, rfl⟩
      go_wp2_with fail
      go_loopw [3, 5] (fun t3 t5 wr => ∃ k : Nat, t5 = .int .i64 (k : Int) ∧ k ≤ nc ∧ (∃ a3 n3 c3, t3 = .slice a3 n3 c3) ∧ Hid (∃ zs, AInv w t3 zs wr ∧ Rising (fun z => decide (z ∈ allB (L.take i) ++ (x.t.cs.take k).map (·.1))) zs)) (fun _ t5 _ => nc - (intOf t5).toNat)
      case atStart => exact ⟨0, by go_num, by omega, ⟨_, _, _, rfl⟩, HA1⟩
      case round =>
        obtain ⟨k, rfl, hkn, ⟨a3, n3, c3, rfl⟩, HZ⟩ := hrel
        obtain ⟨zs, hzs⟩ := HZ.out
        have HAI := Lib.hid hzs.1
        have HRI := Lib.hid hzs.2
        clear HZ hzs
        have hq1 : wr.cell? ⟨gt, i * 3 + 1, none⟩ = some (.slice ac nc cc) := (HAI.out.grow.cell (p := ⟨gt, i * 3 + 1, none⟩) HGL.out).trans HQ1.out
        by_cases hk : k < nc
        · obtain ⟨c, hck⟩ : ∃ c, x.t.cs[k]? = some c := ⟨x.t.cs[k]'(by rw [← HNC.out]; exact hk), by simp⟩
          have hrow := (HXA.out.grow HAI.out.grow).cs
          rw [HVC.out] at hrow
          obtain ⟨gc, cc', hvg, _⟩ := hrow.open_ (by rw [← HNC.out]; omega)
          rw [← HNC.out] at hvg
          cases hvg
          have hcell : wr.cell? ⟨gc, k * 257, none⟩ = some (.int .i64 c.1) := hrow.range hck 0 _ rfl
          have HMB := Lib.hid (show allB (L.take i) ++ (x.t.cs.take (k + 1)).map (·.1) = allB (L.take i) ++ (x.t.cs.take k).map (·.1) ++ [c.1] by rw [List.take_add_one, hck, List.map_append, ← List.append_assoc]; rfl)
          have HLZ := Lib.hid (show zs.length ≤ 100000 by
            refine Nat.le_trans (nodup_sub zs (allB (L.take i) ++ (x.t.cs.take k).map (·.1)) HRI.out.nodup (fun z hz => of_decide_eq_true ((HRI.out.mem z).1 hz))) ?_
            rw [List.length_append, allB_length, List.length_map, List.length_take]
            have h1 := copyN_take HXT.out
            have h2 := copyN_le L (i + 1)
            have h3 := HCN.out
            have h4 : min k x.t.cs.length ≤ x.t.cs.length := Nat.min_le_right _ _
            omega)
          have HNM := Lib.hid (names_ok (w := wr) (Row.see HAI.out.row) (Nat.le_trans HLZ.out (by omega)) c.1)
          obtain ⟨b, hb⟩ : ∃ b, b = c.1 := ⟨_, rfl⟩
          rw [← hb] at HNM HMB hcell
          clear hck hrow hb
          go_wp2_with fail
          refine HNM.out.mono ?_
          rintro e w' ⟨rfl, rfl⟩
          cases hnm : zs.any (· == b) with
          | true =>
            have HR2 := Lib.hid (show ∃ zs, AInv w (.slice a3 n3 c3) zs w' ∧ Rising (fun z => decide (z ∈ allB (L.take i) ++ (x.t.cs.take (k + 1)).map (·.1))) zs from ⟨zs, HAI.out, HRI.out.congr (fun z => by
              have hm := of_decide_eq_true ((HRI.out.mem b).1 (anyB_iff.1 hnm))
              rw [HMB.out]
              apply decide_eq_decide.2
              rw [List.mem_append (s := _ ++ _), List.mem_singleton]
              exact ⟨.inl, fun h => h.elim id (fun e => e ▸ hm)⟩)⟩)
            clear hnm
            go_wp2_with fail
            go_roundw
            case rel => exact ⟨k + 1, by go_num, by omega, ⟨_, _, _, rfl⟩, HR2⟩
            case measure => simp [intOf]; omega
          | false =>
            have HNB := Lib.hid (show b ∉ zs from fun hm => by rw [anyB_iff.2 hm] at hnm; cases hnm)
            clear hnm
            go_upto_region 11 with (at_builtin; refine wpList_append_row rfl _ _ 53 rfl 3 i0 (.int .i64 0) 1 8 Try.underlying53 HI0.out hz0 hz1 hz2 rfl (by omega) (.slice a3 n3 c3) (zs.map icell) rfl (Row.kept HAI.out.row (Touch.alloc [] _ _) (by simp)) _ 1 (icell b) rfl rfl (new_cells _ _ _) (fun u hu => by rw [List.mem_singleton.1 hu]; rfl) (by rw [List.length_map]; have := HLZ.out; omega) (by omega) ?_; intro v' wa happ htch)
            have ha2 : AInv w v' (zs ++ [b]) wa := HAI.out.app (Grow.alloc _ _) happ htch
            obtain ⟨g, kk, hv', hg'⟩ := IRow.open_ ha2.row (by simp)
            obtain ⟨mz, hmz⟩ : ∃ mz, mz = zs.length := ⟨_, rfl⟩
            rw [List.length_append, ← hmz, List.length_singleton] at hv'
            subst hv'
            have HMZ := Lib.hid hmz
            have HJ := Lib.hid (show AInv w (.slice (some ⟨g, 0, none⟩) (mz + 1) kk) (bub zs mz b) wa by rw [show bub zs mz b = zs ++ [b] by rw [hmz, bub_end]]; exact ha2)
            have HLO := Lib.hid (ha2.lo g rfl)
            have hmzb : mz ≤ 100000 := by rw [hmz]; exact HLZ.out
            clear happ htch ha2 hmz hg' hcell hq1
            go_wp2_with fail
            go_loopw [7] (fun t7 wr => ∃ j : Nat, t7 = .int .i64 (j : Int) ∧ j ≤ mz ∧ Hid (AInv w (.slice (some ⟨g, 0, none⟩) (mz + 1) kk) (bub zs j b) wr ∧ ∀ x ∈ zs.drop j, b < x)) (fun t7 _ => (intOf t7).toNat)
            case atStart => exact ⟨mz, by go_num, by omega, Lib.hid ⟨HJ.out, by rw [HMZ.out, List.drop_length]; simp⟩⟩
            case round =>
              obtain ⟨j, rfl, hj, HB⟩ := hrel
              cases j with
              | zero =>
                have HR2 := Lib.hid (show Rising (fun z => decide (z ∈ allB (L.take i) ++ (x.t.cs.take (k + 1)).map (·.1))) (bub zs 0 b) from (bub_rising HRI.out (by omega) HB.out.2 (fun x h => absurd rfl h)).congr (fun z => by
                  rw [HMB.out, ← Bool.decide_or]
                  apply decide_eq_decide.2
                  rw [List.mem_append (s := _ ++ _), List.mem_singleton]))
                go_upto_region 12 with (fail)
                go_quiet (fail)
                go_wp2
                go_roundw
                case rel => exact ⟨k + 1, by go_num, by omega, ⟨_, _, _, rfl⟩, Lib.hid ⟨_, HB.out.1.later (grow_drewN wr _), HR2.out⟩⟩
                case measure => simp [intOf]; omega
              | succ j =>
                obtain ⟨y, hy⟩ : ∃ y, zs[j]? = some y := ⟨zs[j]'(by rw [← HMZ.out]; omega), by simp⟩
                have HY := Lib.hid hy
                have hgl : g < wr.heap.size := Row.lt HB.out.1.row rfl
                have HQY := Lib.hid (show g < wr.heap.size ∧ wr.cell? ⟨g, j, none⟩ = some (.int .i64 y) from ⟨hgl, IRow.cell HB.out.1.row ((bub_below b (by rw [← HMZ.out]; omega) (by omega)).trans hy)⟩)
                have HQB := Lib.hid (show g < wr.heap.size ∧ wr.cell? ⟨g, j + 1, none⟩ = some (.int .i64 b) from ⟨hgl, IRow.cell HB.out.1.row (bub_at b (by rw [← HMZ.out]; omega))⟩)
                have qy := HQY.out.2
                have qb := HQB.out.2
                have b0 : (0 : Int) ≤ ((j + 1 : Nat) : Int) := by omega
                have b1 : ((j + 1 : Nat) : Int) < ((mz + 1 : Nat) : Int) := by omega
                have hyn : y ≠ b := fun e => HNB.out (e ▸ List.mem_of_getElem? hy)
                clear hy hgl
                by_cases hlt : b < y
                · have d0 : decide (b < y) = true := decide_eq_true hlt
                  go_upto_region 12 with (fail)
                  go_quiet (fail)
                  have HG3 := Lib.hid (grow_drewN wr nq)
                  have HB3 := Lib.hid (show AInv w (.slice (some ⟨g, 0, none⟩) (mz + 1) kk) (bub zs (j + 1) b) (wr.drewN nq) from HB.out.1.later HG3.out)
                  generalize wr.drewN nq = w3 at *
                  have hl1 : (bub zs (j + 1) b).length = mz + 1 := by rw [bub_length b (by rw [← HMZ.out]; omega), ← HMZ.out]
                  obtain ⟨C, ty, hC⟩ := IRow.heap HB3.out.row (by rw [hl1]; omega)
                  have HC3 := Lib.hid hC
                  have HCY := Lib.hid (show C[j]? = some (.int .i64 y) from (cell_at hC j).symm.trans (IRow.cell HB3.out.row ((bub_below b (by rw [← HMZ.out]; omega) (by omega)).trans HY.out)))
                  have HCB := Lib.hid (show C[j + 1]? = some (.int .i64 b) from (cell_at hC (j + 1)).symm.trans (IRow.cell HB3.out.row (bub_at b (by rw [← HMZ.out]; omega))))
                  have HL1 := Lib.hid hl1
                  clear qy qb hC hl1
                  go_upto_region 14 with (fail)
                  refine copied_reg14 g j mz kk b y C ty w3 (by omega) (by omega) hlt HC3 HCY HCB _ _ _ _ _ _ _ _ _ _ _ _ _ _ _ _ _ _ _ _ _ _ _ _ _ _ _ _ _ _ _ _ _ _ _ _ _ _ _ _ _ _ _ _ _ _ _ _ _ _ _ _ _ _ _ _ _ _ _ _ _ _ _ _ _ _ _ _ _ _ _ _ _ _ _ (Lib.hid ?hcopiedreg141)
                  intro u59 u60 u61 u62 u63 u64 u65 u66 u67 u68 u69 u70 u71 u72 u73 u74 W4 hRW4
                  intro hS4
                  have HI5 := Lib.hid (show AInv w (.slice (some ⟨g, 0, none⟩) (mz + 1) kk) (bub zs j b) W4 from by
                    have r1 := IRow.set HB3.out.row (k := j) (by rw [HL1.out]; omega) b
                    have r2 := IRow.set r1 (k := j + 1) (by rw [List.length_set, HL1.out]; omega) y
                    rw [bub_swap HY.out] at r2
                    exact ⟨Row.kept r2 (S := []) ⟨hRW4.os, hRW4.tape, hRW4.output, by simpa using hRW4.size, fun k hk _ => by
                      by_cases e : k = g
                      · subst e; exact hS4.trans (heap_set (heap_set HC3.out j _) (j + 1) _).symm
                      · have hk' : k < w3.heap.size := by simpa using hk
                        rw [hRW4.block k hk' (by simpa using e), Below.heap_setCell _ _ _ k e, Below.heap_setCell _ _ _ k e]⟩ (by simp), HB3.out.lo, Below.trans HB3.out.grow (hRW4.below HB3.out.grow.size (fun k hk => by rw [List.mem_singleton.1 hk]; exact HLO.out))⟩)
                  have HD5 := Lib.hid (show ∀ x ∈ zs.drop j, b < x from fun x hx => by
                    rw [List.drop_eq_getElem_cons (by rw [← HMZ.out]; omega), (List.getElem?_eq_some_iff.1 HY.out).2] at hx
                    rcases List.mem_cons.1 hx with rfl | hx
                    · exact hlt
                    · exact HB.out.2 x hx)
                  clear hRW4 hS4
                  go_wp2
                  go_roundw
                  case rel => exact ⟨j, by first | rfl | go_num, by omega, Lib.hid ⟨HI5.out, HD5.out⟩⟩
                  case measure => first | (simp [intOf]; done) | (simp [intOf]; omega)
                · have d0 : decide (b < y) = false := decide_eq_false hlt
                  have HR2 := Lib.hid (show Rising (fun z => decide (z ∈ allB (L.take i) ++ (x.t.cs.take (k + 1)).map (·.1))) (bub zs (j + 1) b) from (bub_rising HRI.out (by rw [← HMZ.out]; omega) HB.out.2 (fun x _ hx => by rw [Nat.add_sub_cancel, HY.out] at hx; cases hx; omega)).congr (fun z => by
                    rw [HMB.out, ← Bool.decide_or]
                    apply decide_eq_decide.2
                    rw [List.mem_append (s := _ ++ _), List.mem_singleton]))
                  go_upto_region 12 with (fail)
                  go_quiet (fail)
                  go_wp2
                  go_roundw
                  case rel => exact ⟨k + 1, by go_num, by omega, ⟨_, _, _, rfl⟩, Lib.hid ⟨_, HB.out.1.later (grow_drewN wr _), HR2.out⟩⟩
                  case measure => simp [intOf]; omega
        · obtain rfl : k = nc := by omega
          have HA3 := Lib.hid (show ∃ zs, AInv w (.slice a3 n3 c3) zs wr ∧ Rising (fun z => decide (z ∈ allB (L.take (i + 1)))) zs from ⟨zs, HAI.out, by have := HRI.out; rw [HNC.out, List.take_length] at this; rw [allB_take HXT.out]; exact this⟩)
          go_wp2_with fail
          go_roundw
          case rel => exact ⟨i + 1, by go_num, by omega, ⟨_, _, _, rfl⟩, HA3⟩
          case measure => simp [intOf]; omega
    · obtain rfl : i = m := by omega
      obtain ⟨zs, hzs⟩ := HA.out
      have HAF := Lib.hid hzs.1
      have HRF := Lib.hid (show Rising (fun z => decide (z ∈ allB L)) zs by have := hzs.2; rw [HLE.out, List.take_length] at this; exact this)
      have HLF := Lib.hid (show zs.length ≤ copyN L by
        refine Nat.le_trans (nodup_sub zs (allB L) HRF.out.nodup (fun z hz => of_decide_eq_true ((HRF.out.mem z).1 hz))) ?_
        rw [allB_length]
        exact Nat.le_refl _)
      clear hzs HA
      go_wp2_with fail
      go_ret
      exact ⟨_, zs, rfl, HAF.out.row, HRF.out, HAF.out.grow, HLF.out⟩
#print axioms copied_ok
end Go.Proofs.Ytlhhbkpocpnebaa
