/- The law ReplayTwice: the walk. -/
import Derived.Test.YtlhhbkpocpnebaaP20
import Derived.Test.YtlhhbkpocpnebaaP18
set_option linter.unusedVariables false
set_option linter.unusedSimpArgs false
namespace Go.Proofs.Ytlhhbkpocpnebaa
open Go.RowKit Go.Maps

set_option maxRecDepth 100000 in
theorem buildSlice_blk (x : Blk) (hx : x.length = 256) (w : World) : (Instr.buildSlice 27 1 #[(0, .agg (bc x).toArray)]).run Try.prog w = .ok (.slice (some ⟨w.heap.size, 0, none⟩) 1 1) (w.alloc (.cells (bc x).toArray 29)) := by
  obtain ⟨i0, hi, hz0, hz1, hz2⟩ := info_parts info32b
  have hl : (bc x).length = 256 := by rw [bc_length]; exact hx
  generalize bc x = c at *
  have hfill : Instr.fill (fun i => some (i * 256, 256)) ((Array.range 256).map ((bc zeroB).toArray[· % (bc zeroB).toArray.size]!)) [(0, .agg c.toArray)] = some c.toArray := by
    rw [fill_cons (off := 0 * 256) (size := 256) rfl (by show c.toArray.size = 256; rw [List.size_toArray, hl]) (by simp), Instr.fill]
    congr 2
    rw [Nat.zero_mul]
    exact setMany_all _ _ (by show _ = c.toArray.toList.length; simp [hl])
  unfold Instr.buildSlice
  simp only [Sem.run_bind, run_underlying Try.underlying27, Result.andThen_ok, sizeOf, typeInfo, hi, hz1, zeroValue, hz0]
  simp [hi, hz1, hz0]
  rw [show (Value.agg (bc zeroB).toArray).cells = (bc zeroB).toArray from rfl, hfill]
  simp [newRow, go_sem]
/-- rows told in short, whole -/
def imgP (l : List PR) : List Blk := l.map rowB
theorem imgP_take {l : List PR} {k : Nat} {p : PR} (h : l[k]? = some p) : imgP (l.take (k + 1)) = imgP (l.take k) ++ [rowB p] := by
  unfold imgP; rw [List.take_add_one, h, List.map_append]; rfl
structure GInv (W : World) (v : Value) (l : List Blk) (wr : World) : Prop where
  row : BRow wr v l
  lo : ∀ g, v.ownBlock = some g → W.heap.size ≤ g
  grow : Grow W wr
theorem GInv.app {W wr w2 wa : World} {v v' : Value} {l : List Blk} {x : Blk} (h : GInv W v l wr) (ht : Grow wr w2) (ha : AppAtE 29 256 w2 v (l.map bc ++ [bc x]) v' wa) (hta : Touch (ownL v) w2 wa) : GInv W v' (l ++ [x]) wa where
  row := by unfold BRow; rw [List.map_append]; exact ha.1
  lo := fun g e => by
    rcases ha.2 with h1 | ⟨g', h1, h2⟩
    · exact h.lo g (h1 ▸ e)
    · rw [e] at h1; cases h1
      have := ht.size
      have := h.grow.size
      omega
  grow := by
    have h2 := Grow.trans h.grow ht
    exact Below.trans h2 (hta.below h2.size (fun j hj => h.lo _ (ownL_mem.1 hj)))
/-- transactions behind others, in a new row -/
theorem trow_app {w wa : World} {v v' vs : Value} {xs ys : List TV} (hx : TRow w v xs) (hy : TRow w vs ys) (ha : AppAtE 55 3 w v (xs.map tcell ++ ys.map tcell) v' wa) (ht : Touch (ownL v) w wa) (hn : ∀ x ∈ xs ++ ys, ∀ g, x.vc.ownBlock = some g ∨ x.vr.ownBlock = some g → v.ownBlock ≠ some g) : TRow wa v' (xs ++ ys) :=
  ⟨by rw [List.map_append]; exact ha.1, fun x hxy => by
    have h1 : TAt w x := by
      rcases List.mem_append.1 hxy with h | h
      · exact hx.at_ x h
      · exact hy.at_ x h
    exact h1.touch ht (fun g hg hm => hn x hxy g hg (ownL_mem.1 hm))⟩
theorem tcells_one {w : World} {v : Value} {xs : List TV} (h : TRow w v xs) : ∀ c ∈ xs.map tcell, ∀ u ∈ c, u.oneCell' = true := fun c hc => by
  obtain ⟨x, hx, rfl⟩ := List.mem_map.1 hc
  exact tcell_one (h.at_ x hx)
set_option maxRecDepth 100000 in
set_option maxHeartbeats 8000000 in
theorem twice_walk {w : World} {v vi : Value} {l : List TSh} {img : List PR} (h : TShIn w v l) (hl : l.length ≤ 9223372036854775807) (hi : RowsIn w vi img) (hil : img.length ≤ 9223372036854775807) : Calls Try.prog 8 #[v, vi] w fun e w' => e = .returned (.bool true) ∧ Below w.heap.size w w' := by
  have HT := Lib.hid h
  have HL := Lib.hid hl
  have HI := Lib.hid hi
  obtain ⟨a, cap, hv, _⟩ := h
  obtain ⟨ai, capi, hvi, _⟩ := hi
  obtain ⟨n, hn⟩ : ∃ n, n = l.length := ⟨_, rfl⟩
  obtain ⟨ni, hni⟩ : ∃ ni, ni = img.length := ⟨_, rfl⟩
  rw [← hn] at hv hl
  rw [← hni] at hvi hil
  have HN := Lib.hid hn
  have HNI := Lib.hid hni
  subst hv hvi
  clear hn hni
  go_enter Try.func8, Try.ntmps8
  go_wp2_with fail
  refine (awake_ok w).mono ?_
  intro e w1 hpost
  obtain ⟨he, hg1⟩ := hpost
  subst he
  have HT1 := Lib.hid (HT.out.grow hg1)
  have HI1 := Lib.hid (HI.out.grow hg1)
  have HG1 := Lib.hid hg1
  clear hg1 HT HI
  go_wp2_with fail
  refine (many19_ok HT1.out HL.out).mono ?_
  intro e w2 hpost
  obtain ⟨b, he, hg, hb⟩ := hpost
  subst he
  have HT2 := Lib.hid (HT1.out.grow hg)
  have HI2 := Lib.hid (HI1.out.grow hg)
  have HG2 := Lib.hid (Grow.trans HG1.out hg)
  clear HT1 HI1 HG1
  cases b with
  | true =>
    clear hg hb
    go_wp2_with fail
    go_ret
    exact ⟨rfl, HG2.out⟩
  | false =>
    by_cases h30 : 30 < n
    · have d0 : decide ((30 : Int) < (n : Int)) = true := by simp; omega
      clear hg hb
      go_wp2_with fail
      go_ret
      exact ⟨rfl, HG2.out⟩
    have d0 : decide ((30 : Int) < (n : Int)) = false := by simp; omega
    by_cases h300 : 300 < ni
    · have d1 : decide ((300 : Int) < (ni : Int)) = true := by simp; omega
      clear hg hb
      go_wp2_with fail
      go_ret
      exact ⟨rfl, HG2.out⟩
    have d1 : decide ((300 : Int) < (ni : Int)) = false := by simp; omega
    have HLN := Lib.hid (hb rfl).1
    have HSZ := Lib.hid (hb rfl).2
    clear hg hb
    go_wp2_with fail
    refine (short_ok HT2.out HLN.out (Nat.le_trans HSZ.out (by omega))).mono ?_
    intro e w3 hpost
    obtain ⟨v5, xs, he, hs⟩ := hpost
    subst he
    have HS := Lib.hid hs
    have HI3 := Lib.hid (HI2.out.grow hs.grow)
    have HG3 := Lib.hid (Grow.trans HG2.out hs.grow)
    obtain ⟨a5, n5, c5, rfl⟩ := rowSlice hs.row.row
    obtain ⟨i1, hi1, hy0, hy1, hy2⟩ := info_parts infoTr3
    have HI1 := Lib.hid hi1
    obtain ⟨i2, hi2, hx0, hx1, hx2⟩ := info_parts info32b
    have HIB := Lib.hid hi2
    have HLX := Lib.hid (show xs.length ≤ 60 by rw [hs.len, shortP_length]; exact HLN.out)
    have HSR := Lib.hid (Row.src hs.row.row (tcells_one hs.row))
    have HTR := Lib.hid hs.row
    have HTS := Lib.hid hs.ts
    have HCN := Lib.hid (show copyN (shortP l) ≤ 1000 from Nat.le_trans (copyN_short l) HSZ.out)
    have HIN := Lib.hid (show ∀ x ∈ xs, ∀ g, x.vc.ownBlock = some g ∨ x.vr.ownBlock = some g → g < w3.heap.size from fun x hx g hg => by
      rcases hg with e | e
      · exact Row.lt (hs.row.at_ x hx).cs e
      · exact Row.lt (hs.row.at_ x hx).rs e)
    obtain ⟨L, hLL⟩ : ∃ L, L = shortP l := ⟨_, rfl⟩
    rw [← hLL] at HTS HCN
    clear hs hi1 hi2 HT2 HI2 HG2 HS hLL
    go_upto_region 8 with (at_builtin; refine wpList_append_rows rfl (.tmp 27) (.tmp 28) 25 rfl 55 i1 (.agg #[.int .u32 0, .slice none 0 0, .slice none 0 0]) 3 56 Try.underlying25 HI1.out hy0 hy1 hy2 rfl (by omega) (.slice none 0 0) (.slice a5 n5 c5) [] (xs.map tcell) rfl (rowNil _ _ _) rfl HSR.out (by rw [List.length_map, List.length_nil]; have := HLX.out; omega) (by omega) ?_; intro v6 w4 happ htch)
    have hg4 : Grow w3 w4 := htch.below (Nat.le_refl _) (fun j hj => by have := ownL_mem.1 hj; cases this)
    have hlo4 : ∀ g, v6.ownBlock = some g → w3.heap.size ≤ g := fun g e => by
      rcases happ.2 with h1 | ⟨g', h1, h2⟩
      · rw [h1] at e; cases e
      · rw [h1] at e; cases e; exact h2
    have ht6 : TRow w4 v6 ([] ++ xs) := trow_app (xs := []) ⟨rowNil _ _ _, fun x hx => by simp at hx⟩ HTR.out happ htch (fun x hx g hg e => by cases e)
    rw [List.nil_append] at ht6
    obtain ⟨a6, n6, c6, rfl⟩ := rowSlice ht6.row
    have HT6 := Lib.hid ht6
    have HG4 := Lib.hid hg4
    have HLO4 := Lib.hid hlo4
    clear happ htch hg4 hlo4 ht6
    go_upto_region 9 with (at_builtin; refine wpList_append_rows rfl (.tmp 30) (.tmp 31) 25 rfl 55 i1 (.agg #[.int .u32 0, .slice none 0 0, .slice none 0 0]) 3 56 Try.underlying25 HI1.out hy0 hy1 hy2 rfl (by omega) (.slice a6 n6 c6) (.slice a5 n5 c5) (xs.map tcell) (xs.map tcell) rfl HT6.out.row rfl (HSR.out.grow HG4.out) (by rw [List.length_map]; have := HLX.out; omega) (by omega) ?_; intro v7 w5 happ htch)
    have hg5 : Grow w3 w5 := Below.trans HG4.out (htch.below HG4.out.size (fun j hj => HLO4.out j (ownL_mem.1 hj)))
    have ht7 : TRow w5 v7 (xs ++ xs) := trow_app HT6.out (HTR.out.grow HG4.out) happ htch (fun x hx g hg e => by
      have h1 := HLO4.out g e
      have h2 : x ∈ xs := by rcases List.mem_append.1 hx with h | h <;> exact h
      have h3 := HIN.out x h2 g hg
      omega)
    obtain ⟨a7, n7, c7, rfl⟩ := rowSlice ht7.row
    have HT7 := Lib.hid ht7
    have HT5 := Lib.hid (HTR.out.grow hg5)
    have HG5 := Lib.hid hg5
    have HOV1 := Lib.hid (overlay_ok HT5.out (by have := HLX.out; omega) (by rw [HTS.out]; exact Nat.le_trans HCN.out (by omega)))
    rw [HTS.out] at HOV1
    have HOW := Lib.hid (own_ov L (fun t ht => by rw [← HTS.out] at ht; obtain ⟨x, hx, rfl⟩ := List.mem_map.1 ht; exact (HTR.out.at_ x hx).ok))
    clear happ htch hg5 ht7
    go_wp2_with fail
    refine HOV1.out.mono ?_
    intro e w6 hpost
    obtain ⟨v8, zs, he, hr, hc, hg, _⟩ := hpost
    subst he
    obtain ⟨a8, c8, hv8⟩ := CRow.len hc
    obtain ⟨n8, hn8⟩ : ∃ n8, n8 = (outL (ov L) zs).length := ⟨_, rfl⟩
    rw [← hn8] at hv8
    subst hv8
    have HZL := Lib.hid (show (outL (ov L) zs).length ≤ 1000 by
      unfold outL
      rw [List.length_map]
      refine Nat.le_trans (nodup_sub zs (allB L) hr.nodup (fun z hz => ?_)) (by rw [allB_length]; exact HCN.out)
      exact Classical.byContradiction fun hn => by have h1 := (hr.mem z).1 hz; unfold HasM at h1; rw [ov_copied L z hn] at h1; cases h1)
    have HCO := Lib.hid (show ∀ c ∈ outL (ov L) zs, IntOk c.1 from fun c hc => by
      obtain ⟨z, hz, rfl⟩ := List.mem_map.1 hc
      obtain ⟨d, hd⟩ := Option.isSome_iff_exists.1 ((hr.mem z).1 hz)
      rw [hd]
      exact (HOW.out z d hd).2.2)
    have HR := Lib.hid hr
    have HC8 := Lib.hid hc
    have HG6 := Lib.hid (Grow.trans HG5.out hg)
    have HOV2 := Lib.hid (overlay_ok (HT7.out.grow hg) (by rw [List.length_append]; have := HLX.out; omega) (by rw [List.map_append, HTS.out]; unfold copyN; rw [List.map_append, List.sum_append]; have := HCN.out; unfold copyN at this; omega))
    rw [List.map_append, HTS.out, ov_twice] at HOV2
    clear hr hc hg hn8 HOV1 HT7 HT5
    go_wp2_with fail
    refine HOV2.out.mono ?_
    intro e w7 hpost
    obtain ⟨v9, zs2, he, hr, hc, hg, _⟩ := hpost
    subst he
    obtain rfl := hr.unique HR.out
    have HC9 := Lib.hid (HC8.out.grow hg)
    have HSM := Lib.hid (samec_ok hc HC9.out (Nat.le_trans HZL.out (by omega)))
    have HG7 := Lib.hid (Grow.trans HG6.out hg)
    clear hr hc hg HOV2 HC8
    go_wp2_with fail
    refine HSM.out.mono ?_
    intro e w8 hpost
    obtain ⟨he, hg⟩ := hpost
    subst he
    have HC10 := Lib.hid (HC9.out.grow hg)
    have HI8 := Lib.hid (HI3.out.grow (Grow.trans HG7.out hg))
    have HG8 := Lib.hid (Grow.trans HG3.out (Grow.trans HG7.out hg))
    have HB0 := Lib.hid (show GInv w8 (.slice none 0 0) (imgP (img.take 0)) w8 from ⟨rowNil _ _ _, fun g e => (by cases e), Grow.refl _⟩)
    clear hg HSM HC9 HI3 HG3 HG7 HG6 HG5 HG4
    go_wp2_with fail
    go_loopw [8, 9] (fun t8 t9 wr => ∃ i : Nat, t9 = .int .i64 (i : Int) ∧ i ≤ ni ∧ (∃ a8 n8 c8, t8 = .slice a8 n8 c8) ∧ Hid (GInv w8 t8 (imgP (img.take i)) wr)) (fun _ t9 _ => ni - (intOf t9).toNat)
    case atStart => exact ⟨0, by go_num, by omega, ⟨_, _, _, rfl⟩, HB0⟩
    case round =>
      obtain ⟨i, rfl, hin, ⟨av, nv, cv, rfl⟩, HB⟩ := hrel
      clear HB0
      by_cases hi : i < ni
      · obtain ⟨p, hp⟩ : ∃ p, img[i]? = some p := ⟨img[i]'(by rw [← HNI.out]; exact hi), by simp⟩
        obtain ⟨y, rfl, hyb, hat⟩ := HI8.out.at_ hp
        have hat2 := hat.grow hyb HB.out.grow
        have hc0 := hat2.1
        have hc1 : wr.cell? { block := (y.add (i * 3)).block, off := (y.add (i * 3)).off + 1 } = some (.int .u8 (p.f : Int)) := hat2.2.1
        have hc2 : wr.cell? { block := (y.add (i * 3)).block, off := (y.add (i * 3)).off + 2 } = some (.bool p.m) := hat2.2.2.1
        have HP := Lib.hid hp
        have b0 : (0 : Int) ≤ (i : Int) := by omega
        have b1 : (i : Int) < (ni : Int) := by omega
        have HLz := Lib.hid (show (imgP (img.take i)).length + 1 ≤ 1000000 by unfold imgP; rw [List.length_map, List.length_take]; omega)
        clear hat hat2 hp
        go_wp2_with fail
        refine (rowblock_ok p wr).mono ?_
        intro e wb hpost
        obtain ⟨he, hg⟩ := hpost
        subst he
        have HGB := Lib.hid hg
        have HRB := Lib.hid (rowB_length p)
        have HBR := Lib.hid (HB.out.row.grow hg)
        clear hg hc0 hc1 hc2
        go_wp2_with (first | (refine wpList_buildSlice rfl 27 1 _ rfl (by simp only [List.map_toArray, List.map_cons, List.map_nil]; exact buildSlice_blk (rowB p) HRB.out _) ?_) | (at_builtin; refine wpList_append_row rfl _ _ 27 rfl 29 i2 (.agg (bc zeroB).toArray) 256 256 Try.underlying27 HIB.out hx0 hx1 hx2 (by show (bc zeroB).toArray.size = 256; exact zero_size) (by omega) (.slice av nv cv) ((imgP (img.take i)).map bc) rfl (Row.kept HBR.out (Touch.alloc [] _ _) (by simp)) _ 1 (bc (rowB p)) rfl (by rw [bc_length]; exact HRB.out) (new_cells _ _ _) (bc_one _) (by rw [List.length_map]; exact HLz.out) (by omega) ?_; intro v' wa happ htch))
        have HB2 := Lib.hid (show GInv w8 v' (imgP (img.take (i + 1))) wa by rw [imgP_take HP.out]; exact HB.out.app (Grow.trans HGB.out (Grow.alloc _ _)) happ htch)
        clear happ htch
        obtain ⟨a5', n5', c5', rfl⟩ := rowSlice HB2.out.row
        go_roundw
        case rel => exact ⟨i + 1, by go_num, by omega, ⟨_, _, _, rfl⟩, HB2⟩
        case measure => simp [intOf]; omega
      · obtain rfl : i = ni := by omega
        have hbr : BRow wr (.slice av nv cv) (imgP img) := by have := HB.out.row; rw [HNI.out, List.take_length] at this; exact this
        have HBL := Lib.hid (show (imgP img).length ≤ 4096 by unfold imgP; rw [List.length_map, ← HNI.out]; omega)
        obtain ⟨ab, cb, hvb⟩ := BRow.len hbr
        obtain ⟨nb, hnb⟩ : ∃ nb, nb = (imgP img).length := ⟨_, rfl⟩
        rw [← hnb] at hvb
        cases hvb
        have HNB := Lib.hid hnb
        have HBR := Lib.hid hbr
        have HGB := Lib.hid HB.out.grow
        have HO1 := Lib.hid (over_ok hbr (HC10.out.grow HB.out.grow) HBL.out (Nat.le_trans HZL.out (by omega)) HCO.out)
        clear hbr hnb HB
        go_wp2_with fail
        refine HO1.out.mono ?_
        intro e w9 hpost
        obtain ⟨v10, he, hr, hg, _⟩ := hpost
        subst he
        obtain ⟨ax, cx, hvx⟩ := BRow.len hr
        rw [overB_length, ← HNB.out] at hvx
        subst hvx
        have HG9 := Lib.hid (Grow.trans HGB.out hg)
        have HX := Lib.hid hr
        have HO2 := Lib.hid (over_ok hr (HC10.out.grow HG9.out) (by rw [overB_length]; exact HBL.out) (Nat.le_trans HZL.out (by omega)) HCO.out)
        rw [overB_twice] at HO2
        clear hr hg HO1
        go_wp2_with fail
        refine HO2.out.mono ?_
        intro e w10 hpost
        obtain ⟨v11, he, hr, hg, _⟩ := hpost
        subst he
        have HSB := Lib.hid (sameb_ok hr (HX.out.grow hg) (by rw [overB_length]; exact Nat.le_trans HBL.out (by omega)))
        have HG10 := Lib.hid (Grow.trans HG9.out hg)
        clear hr hg HO2
        go_wp2_with fail
        refine HSB.out.mono ?_
        intro e w11 hpost
        obtain ⟨he, hg⟩ := hpost
        subst he
        have HG11 := Lib.hid (Grow.trans HG8.out (Grow.trans HG10.out hg))
        clear hg HSB
        go_wp2_with fail
        go_ret
        exact ⟨rfl, HG11.out⟩
#print axioms twice_walk
end Go.Proofs.Ytlhhbkpocpnebaa
