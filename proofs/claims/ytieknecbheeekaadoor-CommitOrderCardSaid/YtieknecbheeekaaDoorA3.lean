/- commit.actions$1: the walk. -/
import Derived.Test.YtieknecbheeekaaDoorI3
import Derived.Test.YtieknecbheeekaaDoorR2
import Derived.Test.YtieknecbheeekaaDoorR3
import Derived.Sort.CutIn
set_option linter.unusedVariables false
set_option linter.unusedSimpArgs false
namespace Go.Proofs.YtieknecbheeekaaDoor
open Go.RowKit Go.Maps Go.Shelf
attribute [local go_sem] Oper.semAt_some
theorem plan_hs {os ps : List Int} {hs bs : List Blk} {k : Nat} {x : Blk} (h : hs[k]? = some x) : (plan os ps hs bs)[os.length + k]? = some (2, 2, x) := by
  unfold plan
  rw [List.getElem?_append_right (by rw [List.length_map]; omega), List.length_map, Nat.add_sub_cancel_left, List.getElem?_append_left (by rw [List.length_map]; exact (List.getElem?_eq_some_iff.1 h).1), List.getElem?_map, h]
  rfl
theorem firsts_length {ps : List Int} {bs : List Blk} (h : bs.length = ps.length) : (firsts ps bs).length = ps.length - 1 := by unfold firsts; simp [h]
theorem plan_firsts {os ps : List Int} {hs bs : List Blk} (hl : bs.length = ps.length) {k : Nat} (hk : k < ps.length - 1) {p : Int} {x : Blk} (h1 : ps[k]? = some p) (h2 : bs[k]? = some x) : (plan os ps hs bs)[os.length + hs.length + k]? = some (2, 2 + p, x) := by
  unfold plan
  rw [List.getElem?_append_right (by rw [List.length_map]; omega), List.length_map, List.getElem?_append_right (by rw [List.length_map]; omega), List.length_map, show os.length + hs.length + k - os.length - hs.length = k by omega, List.getElem?_append_left (by rw [firsts_length hl]; exact hk)]
  unfold firsts
  rw [List.getElem?_map, List.dropLast_eq_take, List.getElem?_take_of_lt (by simp [hl]; omega), show (ps.zip bs)[k]? = some (p, x) from List.getElem?_zip_eq_some.2 ⟨h1, h2⟩]
  rfl
theorem plan_flush {os ps : List Int} {hs bs : List Blk} (hl : bs.length = ps.length) : (plan os ps hs bs)[os.length + hs.length + (ps.length - 1)]? = some (3, 0, zeroB) := by
  unfold plan
  rw [List.getElem?_append_right (by rw [List.length_map]; omega), List.length_map, List.getElem?_append_right (by rw [List.length_map]; omega), List.length_map, show os.length + hs.length + (ps.length - 1) - os.length - hs.length = ps.length - 1 by omega, List.getElem?_append_right (by rw [firsts_length hl]; omega), firsts_length hl, Nat.sub_self]
  rfl
theorem zip_last {ps : List Int} {bs : List Blk} (hl : bs.length = ps.length) (h0 : 1 ≤ ps.length) {p : Int} {x : Blk} (h1 : ps[ps.length - 1]? = some p) (h2 : bs[ps.length - 1]? = some x) : lasts ps bs = [(2, 2 + p, x), (3, 0, zeroB)] := by
  have e : (ps.zip bs).getLast? = some (p, x) := by
    rw [List.getLast?_eq_getElem?, show (ps.zip bs).length - 1 = ps.length - 1 by simp [hl]]
    exact List.getElem?_zip_eq_some.2 ⟨h1, h2⟩
  unfold lasts
  rw [e]
theorem plan_behind {os ps : List Int} {hs bs : List Blk} (hl : bs.length = ps.length) (d : Nat) : (plan os ps hs bs)[os.length + hs.length + (ps.length - 1) + (d + 1)]? = (lasts ps bs)[d]? := by
  unfold plan
  rw [List.getElem?_append_right (by rw [List.length_map]; omega), List.length_map, List.getElem?_append_right (by rw [List.length_map]; omega), List.length_map, show os.length + hs.length + (ps.length - 1) + (d + 1) - os.length - hs.length = ps.length - 1 + (d + 1) by omega, List.getElem?_append_right (by rw [firsts_length hl]; omega), firsts_length hl, Nat.add_sub_cancel_left, List.getElem?_cons_succ]
theorem plan_length {os ps : List Int} {hs bs : List Blk} (hl : bs.length = ps.length) : (plan os ps hs bs).length = os.length + hs.length + (ps.length - 1) + (1 + (lasts ps bs).length) := by
  unfold plan
  simp only [List.length_append, List.length_map, List.length_cons, firsts_length hl]
  omega
theorem lasts_nil {ps : List Int} {bs : List Blk} (h : ps.length = 0) : lasts ps bs = [] := by
  have := List.eq_nil_of_length_eq_zero h
  subst this
  rfl
def rvA (l : List (Nat × Int × Blk)) (k : Nat) : Value := match l[k]? with | none => undef | some x => actV x
theorem rvA_at {l : List (Nat × Int × Blk)} {k : Nat} {x : Nat × Int × Blk} (h : l[k]? = some x) : rvA l k = actV x := by unfold rvA; rw [h]
def rowA (l : List (Nat × Int × Blk)) (k : Nat) : Array Value := #[rvA l k]
theorem rowA_at {l : List (Nat × Int × Blk)} {k : Nat} {x : Nat × Int × Blk} (h : l[k]? = some x) : rowA l k = #[actV x] := by unfold rowA; rw [rvA_at h]
theorem plan_os {os ps : List Int} {hs bs : List Blk} {k : Nat} {z : Int} (h : os[k]? = some z) : (plan os ps hs bs)[k]? = some (1, z, zeroB) := by
  unfold plan
  rw [List.getElem?_append_left (by rw [List.length_map]; exact (List.getElem?_eq_some_iff.1 h).1), List.getElem?_map, h]
  rfl
theorem zero_act : Tryd.zeroCells36 = (acell (0, 0, zeroB)).toArray := by kernel_rfl
theorem act_back (z : Int) : actV (1, z, zeroB) = .agg ((Tryd.zeroCells36.setIfInBounds 0 (.int .u8 1)).setIfInBounds 1 (.int .i64 z)) := by rw [zero_act]; simp [actV, acell]
theorem act_flush : actV (3, 0, zeroB) = .agg (Tryd.zeroCells36.setIfInBounds 0 (.int .u8 3)) := by rw [zero_act]; simp [actV, acell]
set_option maxRecDepth 100000 in
set_option maxHeartbeats 4000000 in
theorem actions_in (n0 : Nat) (hn : 1 ≤ n0) {Bo Bp Bh Bb : Nat} {vo vp vh vb : Value} {os ps : List Int} {hs bs : List Blk} {w0 : World} (hS : PSrc Bo Bp Bh Bb vo vp vh vb os ps hs bs w0) (hlo : os.length ≤ 1000) (hlp : ps.length ≤ 1000) (hlh : hs.length ≤ 1) (hlb : bs.length = ps.length) (hpp : ∀ p ∈ ps, 1 ≤ p ∧ p ≤ 255) :
    CountedQ Fence.wide n0 Tryd.prog 33 #[.pointer (some ⟨Bo, 0, none⟩), .pointer (some ⟨Bh, 0, none⟩), .pointer (some ⟨Bb, 0, none⟩), .pointer (some ⟨Bp, 0, none⟩)] (rowA (plan os ps hs bs)) (plan os ps hs bs).length (srcT Bo Bp Bh Bb vo vp vh vb w0) w0 := by
  intro l J Jx W hW hJ hY h0
  have HJ := Lib.hid hJ
  have HY := Lib.hid hY
  have H0 := Lib.hid h0
  have HS0 := Lib.hid hS
  have HS := Lib.hid (hS.same hS (fun q hq => hW.block q (srcT_lt q hq) (by simp)))
  obtain ⟨ao, co, hvo⟩ := hS.os.len
  obtain ⟨ap, cp, hvp⟩ := hS.ps.len
  obtain ⟨ah, ch, hvh⟩ := hS.hs.1
  obtain ⟨ab, cb, hvb⟩ := hS.bs.1
  replace hvh := hvh.1
  replace hvb := hvb.1
  rw [List.length_map] at hvh hvb
  obtain ⟨no, hno⟩ : ∃ no, no = os.length := ⟨_, rfl⟩
  obtain ⟨np, hnp⟩ : ∃ np, np = ps.length := ⟨_, rfl⟩
  obtain ⟨nh, hnh⟩ : ∃ nh, nh = hs.length := ⟨_, rfl⟩
  rw [hlb] at hvb
  rw [← hnp] at hvp hvb hlp
  rw [← hno] at hvo hlo
  rw [← hnh] at hvh hlh
  subst hvo hvp hvh hvb
  have HNO := Lib.hid hno
  have HNP := Lib.hid hnp
  have HNH := Lib.hid hnh
  have HNB := Lib.hid hlb
  have HPP := Lib.hid hpp
  obtain ⟨L, hL⟩ : ∃ L, L = plan os ps hs bs := ⟨_, rfl⟩
  rw [← hL] at HY ⊢
  have HL := Lib.hid hL
  have hz := zero32
  have HZ := Lib.hid zero_size
  obtain ⟨Z, hZ⟩ : ∃ Z, Z = (bc zeroB).toArray := ⟨_, rfl⟩
  rw [← hZ] at hz HZ
  clear hZ
  obtain ⟨T, hT⟩ : ∃ T, T = srcT Bo Bp Bh Bb (.slice ao no co) (.slice ap np cp) (.slice ah nh ch) (.slice ab np cb) w0 := ⟨_, rfl⟩
  rw [← hT] at HY
  have HT := Lib.hid hT
  clear hJ hY h0 hW hS hno hnp hnh hlb hpp hL hT
  have hro : Fence.wide.round = none := rfl
  refine callsIn_of_wp Tryd.func33 rfl trivial ?_ hro
  simp only [Tryd.ntmps33, List.size_toArray, List.length_cons, List.length_nil, Nat.reduceAdd, Nat.reduceSub, Array.replicate_succ, Array.replicate_zero, List.push_toArray, List.append_toArray, List.nil_append, List.cons_append]
  have c0 := cell_at HS.out.o 0
  gi_wp2
  gi_loopw [14] (fun t14 wr => ∃ i : Nat, i ≤ no ∧ t14 = .int .i64 (i : Int) ∧ Hid (PSrc Bo Bp Bh Bb (.slice ao no co) (.slice ap np cp) (.slice ah nh ch) (.slice ab np cb) os ps hs bs wr) ∧ Hid (J i wr)) (fun t14 _ => no - (intOf t14).toNat)
  case atStart => exact ⟨0, by omega, rfl, HS, H0⟩
  case round =>
    obtain ⟨i, hi, rfl, HSR, HJR⟩ := hrel
    clear HS H0 c0
    by_cases hlt : i < no
    · obtain ⟨ga, oa, z, rfl, hz, y0⟩ := HSR.out.os.cell2 (k := i) (by rw [← HNO.out]; exact hlt)
      have b0 : (0 : Int) ≤ (i : Int) := by omega
      have b1 : (i : Int) < (no : Int) := by omega
      have hLi : L[i]? = some (1, z, zeroB) := by rw [HL.out]; exact plan_os hz
      obtain ⟨fn, tmps, assign, body, hy, hRd⟩ := HY.out i wr (List.getElem?_eq_some_iff.1 hLi).1 HJR.out
      rw [rowA_at hLi, act_back] at hy
      have HRd := Lib.hid hRd
      have HZ := Lib.hid hz
      clear hRd hz hLi
      gi_wp2_with fail
      refine HRd.out.mono ?_
      rintro e W3 ⟨hkeep, (⟨rfl, hJ3⟩ | ⟨rfl, hJx3⟩)⟩
      · have HJ3 := Lib.hid hJ3
        have HS3 := Lib.hid (HSR.out.same HS0.out (fun q hq => hkeep q (by rw [HT.out]; exact hq)))
        clear hkeep hJ3 hy y0
        gi_wp2_with fail
        go_roundw
        case rel => exact ⟨i + 1, by omega, by go_num, HS3, HJ3⟩
        case measure => simp [intOf]; omega
      · gi_wp2_with fail
        refine bodyPost_ret (results_none rfl _ _ _) rfl ?_
        exact ⟨⟨_, rfl⟩, .inr hJx3⟩
    · obtain rfl : i = no := by omega
      have c0 := cell_at HSR.out.h 0
      gi_wp2_with fail
      gi_loopw [26] (fun t26 wr => ∃ j : Nat, j ≤ nh ∧ t26 = .int .i64 (j : Int) ∧ Hid (PSrc Bo Bp Bh Bb (.slice ao i co) (.slice ap np cp) (.slice ah nh ch) (.slice ab np cb) os ps hs bs wr) ∧ Hid (J (i + j) wr)) (fun t26 _ => nh - (intOf t26).toNat)
      case atStart => exact ⟨0, by omega, rfl, HSR, HJR⟩
      case round =>
        obtain ⟨j, hj, rfl, HSR, HJR⟩ := hrel
        clear c0
        by_cases hlt2 : j < nh
        · obtain ⟨x, hx⟩ : ∃ x, hs[j]? = some x := ⟨hs[j]'(by rw [← HNH.out]; exact hlt2), by simp⟩
          obtain ⟨gh, oh, rfl, hgl, hrg, hxl⟩ := HSR.out.hs.at_ hx
          have b0 : (0 : Int) ≤ (j : Int) := by omega
          have b1 : (j : Int) < (nh : Int) := by omega
          have HRG := Lib.hid hrg
          have HXL := Lib.hid hxl
          have HX := Lib.hid hx
          clear hx hrg hxl
          obtain ⟨Y, hY⟩ : ∃ Y, Y = (bc x).toArray := ⟨_, rfl⟩
          have HY0 := Lib.hid hY
          have HYs := Lib.hid (show Y.size = 256 by rw [hY, List.size_toArray, bc_length, HXL.out])
          have HY1 := Lib.hid (show Y.all (·.oneCell') = true by rw [hY]; exact all_oneCell_toArray (bc_one _))
          clear hY
          gi_upto_region 8 with (first | (refine wpListIn_via (fun _ h => wpList_load_mid rfl 34 _ rfl gh (oh + j * 256) rfl (bc x) _ HRG.out Tryd.underlying34 rfl (bsizeL HXL.out) h) ?_; rw [← HY0.out]) | (refine wpListIn_via (fun _ h => wpList_store_row rfl 34 _ _ rfl wr.heap.size Y rfl rfl 34 Z (heap_alloc_last _ _) (by rw [HYs.out]; exact size32) (by rw [HYs.out]; exact HZ.out) HY1.out h) ?_))
          have HE5 := Lib.hid (show ((wr.alloc (.cells Z 34)).setRow wr.heap.size Y).heap[wr.heap.size]? = some (.cells Y 34) from setRow_heap _ _ _ _ _ _ (heap_alloc_last _ _))
          have HG5 := Lib.hid (show Grow wr ((wr.alloc (.cells Z 34)).setRow wr.heap.size Y) from below_setRow (Grow.alloc _ _) (Nat.le_refl _) _)
          obtain ⟨EB, hEB⟩ : ∃ EB, EB = wr.heap.size := ⟨_, rfl⟩
          rw [← hEB]
          rw [← hEB] at HE5 HG5
          clear hEB
          generalize (wr.alloc (.cells Z 34)).setRow EB Y = w5 at *
          have HJ5 := Lib.hid (HJ.out _ _ _ HJR.out (Touch.of_below HG5.out))
          have HS5 := Lib.hid (HSR.out.grow HG5.out)
          have hLi : L[i + j]? = some (2, 2, x) := by rw [HL.out, HNO.out]; exact plan_hs HX.out
          obtain ⟨fn, tmps, assign, body, hy, hRd⟩ := HY.out (i + j) w5 (List.getElem?_eq_some_iff.1 hLi).1 HJ5.out
          rw [rowA_at hLi] at hy
          have HRd := Lib.hid hRd
          have HBW := Lib.hid (show Tryd.prog.built 36 [(0, .int .u8 2), (1, .int .i64 2), (2, .agg Y)] = some (acell (2, 2, x)).toArray by rw [HY0.out]; exact built_write 2 x HXL.out)
          unfold actV at hy
          obtain ⟨AX, hAX⟩ : ∃ AX, AX = (acell (2, 2, x)).toArray := ⟨_, rfl⟩
          rw [← hAX] at hy HBW
          clear hRd hLi hAX
          gi_wp2_with (first | (refine wpListIn_via (fun _ h => wpList_load_row rfl 34 _ rfl EB rfl 34 Y (0, 0) _ HE5.out Tryd.underlying34 rfl (by rw [HYs.out]; exact size32) h) ?_) | (refine wpListIn_via (fun _ h => wpList_build_v rfl 36 _ rfl AX (by simp only [List.map_toArray, List.map_cons, List.map_nil]; exact HBW.out) h) ?_))
          refine HRd.out.mono ?_
          rintro e W3 ⟨hkeep, (⟨rfl, hJ3⟩ | ⟨rfl, hJx3⟩)⟩
          · have HJ3 := Lib.hid hJ3
            have HS3 := Lib.hid (HS5.out.same HS0.out (fun q hq => hkeep q (by rw [HT.out]; exact hq)))
            clear hkeep hJ3 hy
            gi_wp2_with fail
            go_roundw
            case rel => exact ⟨j + 1, by omega, by go_num, HS3, HJ3⟩
            case measure => simp [intOf]; omega
          · gi_wp2_with fail
            refine bodyPost_ret (results_none rfl _ _ _) rfl ?_
            exact ⟨⟨_, rfl⟩, .inr hJx3⟩
        · obtain rfl : j = nh := by omega
          have c0 := cell_at HSR.out.b 0
          gi_wp2_with fail
          obtain ⟨M, hM⟩ : ∃ M : Int, M = (np : Int) - 1 := ⟨_, rfl⟩
          rw [← hM]
          have HM := Lib.hid hM
          clear hM c0
          gi_loopw [40] (fun t40 wr => ∃ q : Nat, q ≤ np - 1 ∧ t40 = .int .i64 (q : Int) ∧ Hid (PSrc Bo Bp Bh Bb (.slice ao i co) (.slice ap np cp) (.slice ah j ch) (.slice ab np cb) os ps hs bs wr) ∧ Hid (J (i + j + q) wr)) (fun t40 _ => np - (intOf t40).toNat)
          case atStart => exact ⟨0, by omega, rfl, HSR, HJR⟩
          case round =>
            obtain ⟨q, hq, rfl, HSR, HJR⟩ := hrel
            by_cases hlt3 : q < np - 1
            · have b1 : (q : Int) < M := by have := HM.out; omega
              gi_upto_region 14 with (fail)
              obtain ⟨gp, op, p, hape, hpz, y0⟩ := (HSR.out.ps).cell2 (k := q) (by rw [← HNP.out]; omega)
              obtain ⟨x, hx⟩ : ∃ x, bs[q]? = some x := ⟨bs[q]'(by rw [HNB.out, ← HNP.out]; omega), by simp⟩
              obtain ⟨gb, ob, habe, hgl, hrg, hxl⟩ := HSR.out.bs.at_ hx
              subst hape habe
              have HRG := Lib.hid hrg
              have HXL := Lib.hid hxl
              have HPZ := Lib.hid hpz
              have HXE := Lib.hid hx
              have hp1 : 1 ≤ p := (HPP.out p (List.mem_of_getElem? hpz)).1
              have hp2 : p ≤ 255 := (HPP.out p (List.mem_of_getElem? hpz)).2
              have c0 := cell_at HSR.out.p 0
              have c1 := cell_at HSR.out.b 0
              have b0 : (0 : Int) ≤ (q : Int) := by omega
              have b2 : (q : Int) < (np : Int) := by omega
              have hLi : L[i + j + q]? = some (2, 2 + p, x) := by rw [HL.out, HNO.out, HNH.out]; exact plan_firsts HNB.out (by rw [← HNP.out]; exact hlt3) HPZ.out HXE.out
              obtain ⟨AX, hAX⟩ : ∃ AX, AX = (acell (2, 2 + p, x)).toArray := ⟨_, rfl⟩
              obtain ⟨Y, hY⟩ : ∃ Y, Y = (bc x).toArray := ⟨_, rfl⟩
              have HY0 := Lib.hid hY
              have HBW := Lib.hid (show Tryd.prog.built 36 [(0, .int .u8 2), (1, .int .i64 (2 + p)), (2, .agg Y)] = some AX by rw [HY0.out, hAX]; exact built_write (2 + p) x HXL.out)
              have HAX := Lib.hid hAX
              clear hrg hx hxl hpz hAX hY
              refine wpIn_region_still_tail 11 (by kernel_rfl) (by kernel_rfl) ?_
              simp only [List.take_succ_cons, List.take_zero, List.drop_succ_cons, List.drop_zero]
              have HSR6 := Lib.hid (PSrc.same HSR.out HS0.out (B := { wr with drawn := wr.drawn + 1 }) (fun q hq => rfl))
              have HJR6 := Lib.hid (HJ.out _ _ { wr with drawn := wr.drawn + 1 } HJR.out (show Touch [] wr wr.drew from Touch.drew _ _))
              replace y0 : ({ wr with drawn := wr.drawn + 1 } : World).cell? ⟨gp, op + q, none⟩ = some (.int .i64 p) := y0
              replace c0 : ({ wr with drawn := wr.drawn + 1 } : World).cell? ⟨Bp, 0, none⟩ = some (.slice (some ⟨gp, op, none⟩) np cp) := c0
              replace c1 : ({ wr with drawn := wr.drawn + 1 } : World).cell? ⟨Bb, 0, none⟩ = some (.slice (some ⟨gb, ob, none⟩) np cb) := c1
              have HRG6 := Lib.hid (show ({ wr with drawn := wr.drawn + 1 } : World).rangeAt gb (ob + q * 256) (bc x) from HRG.out)
              clear HRG
              generalize ({ wr with drawn := wr.drawn + 1 } : World) = w6 at *
              have hwp : IntKind.i64.wrap (2 + p) = 2 + p := by rw [IntKind.wrap_i64] <;> omega
              iterate 9 still_step
              try rw [hwp]
              clear hwp
              refine wpStill_gv rfl (run_load_mid 34 _ rfl gb (ob + q * 256) rfl (bc x) _ HRG6.out Tryd.underlying34 rfl (bsizeL HXL.out)) ?_
              rw [← HY0.out]
              simp only [Act.put, List.setIfInBounds_toArray, List.set_cons_succ, List.set_cons_zero]
              refine wpStill_gv rfl (run_build_v 36 _ rfl AX (by simp only [List.map_toArray, List.map_cons, List.map_nil]; exact HBW.out)) ?_
              refine wpStill_nil ?_
              simp only [Act.put, List.setIfInBounds_toArray, List.set_cons_succ, List.set_cons_zero]
              obtain ⟨fn, tmps, assign, body, hy, hRd⟩ := HY.out (i + j + q) w6 (List.getElem?_eq_some_iff.1 hLi).1 HJR6.out
              rw [rowA_at hLi] at hy
              unfold actV at hy
              rw [← HAX.out] at hy
              have HRd := Lib.hid hRd
              clear hRd hLi y0 c0 c1
              gi_wp2_with fail
              refine HRd.out.mono ?_
              rintro e W3 ⟨hkeep, (⟨rfl, hJ3⟩ | ⟨rfl, hJx3⟩)⟩
              · have HJ3 := Lib.hid hJ3
                have HS3 := Lib.hid (HSR6.out.same HS0.out (fun q hq => hkeep q (by rw [HT.out]; exact hq)))
                clear hkeep hJ3 hy
                gi_wp2_with fail
                go_roundw
                case rel => exact ⟨q + 1, by omega, by go_num, HS3, HJ3⟩
                case measure => simp [intOf]; omega
              · gi_wp2_with fail
                refine bodyPost_ret (results_none rfl _ _ _) rfl ?_
                exact ⟨⟨_, rfl⟩, .inr hJx3⟩
            · have hqe : q = np - 1 := by omega
              have HQ := Lib.hid hqe
              have bq : M ≤ (q : Int) := by have := HM.out; omega
              have hLf : L[i + j + q]? = some (3, 0, zeroB) := by rw [HL.out, hqe, HNO.out, HNH.out, HNP.out]; exact plan_flush HNB.out
              obtain ⟨fn, tmps, assign, body, hy, hRd⟩ := HY.out (i + j + q) wr (List.getElem?_eq_some_iff.1 hLf).1 HJR.out
              rw [rowA_at hLf, act_flush] at hy
              have HRd := Lib.hid hRd
              clear hRd hLf hqe hlt3
              by_cases hm0 : M < 0
              · have HLE := Lib.hid (show L.length = i + j + q + 1 by rw [HL.out, plan_length HNB.out, lasts_nil (by have := HM.out; have := HNP.out; omega), ← HNP.out, HQ.out, HNO.out, HNH.out]; rfl)
                gi_wp2_with fail
                refine HRd.out.mono ?_
                rintro e W3 ⟨hkeep, (⟨rfl, hJ3⟩ | ⟨rfl, hJx3⟩)⟩
                · have HJ3 := Lib.hid hJ3
                  have HS3 := Lib.hid (HSR.out.same HS0.out (fun q hq => hkeep q (by rw [HT.out]; exact hq)))
                  clear hkeep hJ3 hy
                  gi_wp2_with fail
                  refine bodyPost_ret (results_none rfl _ _ _) rfl ?_
                  exact ⟨⟨_, rfl⟩, .inl (by rw [HLE.out]; exact HJ3.out)⟩
                · gi_wp2_with fail
                  refine bodyPost_ret (results_none rfl _ _ _) rfl ?_
                  exact ⟨⟨_, rfl⟩, .inr hJx3⟩
              · have hm1 : 0 ≤ M := by omega
                gi_wp2_with fail
                refine HRd.out.mono ?_
                rintro e W3 ⟨hkeep, (⟨rfl, hJ3⟩ | ⟨rfl, hJx3⟩)⟩
                · have HJ3 := Lib.hid hJ3
                  have HS3 := Lib.hid (HSR.out.same HS0.out (fun q hq => hkeep q (by rw [HT.out]; exact hq)))
                  clear hkeep hJ3 hy
                  gi_upto_region 17 with (fail)
                  have HMQ := Lib.hid (show M = (q : Int) by have := HM.out; have := HQ.out; omega)
                  obtain ⟨gp, op, p, hape, hpz, y0⟩ := (HS3.out.ps).cell2 (k := q) (by rw [← HNP.out]; have := HQ.out; have := HM.out; omega)
                  obtain ⟨x, hx⟩ : ∃ x, bs[q]? = some x := ⟨bs[q]'(by rw [HNB.out, ← HNP.out]; have := HQ.out; have := HM.out; omega), by simp⟩
                  obtain ⟨gb, ob, habe, hgl, hrg, hxl⟩ := HS3.out.bs.at_ hx
                  subst hape habe
                  have HRG := Lib.hid hrg
                  have HXL := Lib.hid hxl
                  have hp1 : 1 ≤ p := (HPP.out p (List.mem_of_getElem? hpz)).1
                  have hp2 : p ≤ 255 := (HPP.out p (List.mem_of_getElem? hpz)).2
                  have c0 := cell_at HS3.out.p 0
                  have c1 := cell_at HS3.out.b 0
                  have b2 : M < (np : Int) := by have := HM.out; omega
                  have HLA := Lib.hid (show lasts ps bs = [(2, 2 + p, x), (3, 0, zeroB)] from zip_last HNB.out (by rw [← HNP.out]; have := HQ.out; have := HM.out; omega) (by rw [← HNP.out, ← HQ.out]; exact hpz) (by rw [← HNP.out, ← HQ.out]; exact hx))
                  have HLE := Lib.hid (show L.length = i + j + q + 3 by rw [HL.out, plan_length HNB.out, HLA.out, ← HNP.out, HQ.out, HNO.out, HNH.out]; rfl)
                  have hLi : L[i + j + q + (0 + 1)]? = some (2, 2 + p, x) := by rw [HL.out, HNO.out, HNH.out, HQ.out, HNP.out, plan_behind HNB.out 0, HLA.out]; rfl
                  have HLF := Lib.hid (show L[i + j + q + (1 + 1)]? = some (3, 0, zeroB) by rw [HL.out, HNO.out, HNH.out, HQ.out, HNP.out, plan_behind HNB.out 1, HLA.out]; rfl)
                  obtain ⟨AX, hAX⟩ : ∃ AX, AX = (acell (2, 2 + p, x)).toArray := ⟨_, rfl⟩
                  obtain ⟨Y, hY⟩ : ∃ Y, Y = (bc x).toArray := ⟨_, rfl⟩
                  have HY0 := Lib.hid hY
                  have HBW := Lib.hid (show Tryd.prog.built 36 [(0, .int .u8 2), (1, .int .i64 (2 + p)), (2, .agg Y)] = some AX by rw [HY0.out, hAX]; exact built_write (2 + p) x HXL.out)
                  have HAX := Lib.hid hAX
                  clear hrg hx hxl hpz hAX hY
                  rw [HMQ.out]
                  have b0 : (0 : Int) ≤ (q : Int) := by omega
                  have b3 : (q : Int) < (np : Int) := by have := HMQ.out; omega
                  clear b2 bq hm1 hm0
                  refine wpIn_region_still_tail 11 (by kernel_rfl) (by kernel_rfl) ?_
                  simp only [List.take_succ_cons, List.take_zero, List.drop_succ_cons, List.drop_zero]
                  have HSR6 := Lib.hid (PSrc.same HS3.out HS0.out (B := { W3 with drawn := W3.drawn + 1 }) (fun q hq => rfl))
                  have HJR6 := Lib.hid (HJ.out _ _ { W3 with drawn := W3.drawn + 1 } HJ3.out (show Touch [] W3 W3.drew from Touch.drew _ _))
                  replace y0 : ({ W3 with drawn := W3.drawn + 1 } : World).cell? ⟨gp, op + q, none⟩ = some (.int .i64 p) := y0
                  replace c0 : ({ W3 with drawn := W3.drawn + 1 } : World).cell? ⟨Bp, 0, none⟩ = some (.slice (some ⟨gp, op, none⟩) np cp) := c0
                  replace c1 : ({ W3 with drawn := W3.drawn + 1 } : World).cell? ⟨Bb, 0, none⟩ = some (.slice (some ⟨gb, ob, none⟩) np cb) := c1
                  have HRG6 := Lib.hid (show ({ W3 with drawn := W3.drawn + 1 } : World).rangeAt gb (ob + q * 256) (bc x) from HRG.out)
                  clear HRG
                  generalize ({ W3 with drawn := W3.drawn + 1 } : World) = w6 at *
                  have hwp : IntKind.i64.wrap (2 + p) = 2 + p := by rw [IntKind.wrap_i64] <;> omega
                  iterate 9 still_step
                  try rw [hwp]
                  clear hwp
                  refine wpStill_gv rfl (run_load_mid 34 _ rfl gb (ob + q * 256) rfl (bc x) _ HRG6.out Tryd.underlying34 rfl (bsizeL HXL.out)) ?_
                  rw [← HY0.out]
                  simp only [Act.put, List.setIfInBounds_toArray, List.set_cons_succ, List.set_cons_zero]
                  refine wpStill_gv rfl (run_build_v 36 _ rfl AX (by simp only [List.map_toArray, List.map_cons, List.map_nil]; exact HBW.out)) ?_
                  refine wpStill_nil ?_
                  simp only [Act.put, List.setIfInBounds_toArray, List.set_cons_succ, List.set_cons_zero]
                  obtain ⟨fn, tmps, assign, body, hy, hRd⟩ := HY.out (i + j + q + (0 + 1)) w6 (List.getElem?_eq_some_iff.1 hLi).1 HJR6.out
                  rw [rowA_at hLi] at hy
                  unfold actV at hy
                  rw [← HAX.out] at hy
                  have HRd := Lib.hid hRd
                  clear hRd hLi y0 c0 c1
                  gi_wp2_with fail
                  refine HRd.out.mono ?_
                  rintro e W7 ⟨hkeep, (⟨rfl, hJ7⟩ | ⟨rfl, hJx7⟩)⟩
                  · have hLf := HLF.out
                    obtain ⟨fn, tmps, assign, body, hy, hRd⟩ := HY.out (i + j + q + (1 + 1)) W7 (List.getElem?_eq_some_iff.1 hLf).1 hJ7
                    rw [rowA_at hLf, act_flush] at hy
                    have HRd := Lib.hid hRd
                    clear hkeep hJ7 hLf hRd
                    gi_wp2_with fail
                    refine HRd.out.mono ?_
                    rintro e W8 ⟨hkeep, (⟨rfl, hJ8⟩ | ⟨rfl, hJx8⟩)⟩
                    · have HJ8 := Lib.hid hJ8
                      clear hkeep hJ8 hy
                      gi_wp2_with fail
                      go_end0
                      exact ⟨⟨_, rfl⟩, .inl (by rw [HLE.out]; exact HJ8.out)⟩
                    · have HJ8 := Lib.hid hJx8
                      clear hkeep hJx8 hy
                      gi_wp2_with fail
                      go_end0
                      exact ⟨⟨_, rfl⟩, .inr HJ8.out⟩
                  · have HJ8 := Lib.hid hJx7
                    clear hkeep hJx7 hy
                    gi_wp2_with fail
                    go_end0
                    exact ⟨⟨_, rfl⟩, .inr HJ8.out⟩
                · gi_wp2_with fail
                  refine bodyPost_ret (results_none rfl _ _ _) rfl ?_
                  exact ⟨⟨_, rfl⟩, .inr hJx3⟩
#print axioms actions_in
end Go.Proofs.YtieknecbheeekaaDoor
