/- pack.withCommit: the walk. -/
import Derived.Test.YtieknecbheeekaaDoorP1
set_option linter.unusedVariables false
set_option linter.unusedSimpArgs false
namespace Go.Proofs.YtieknecbheeekaaDoor
open Go.RowKit Go.Maps

theorem info110 : (Tryd.prog.info? 110).map (fun i => (i.zero, i.size, i.bytes)) = some (some (.slice none 0 0), 1, 24) := by kernel_rfl
def pcell (v : Value) : List Value := [v]
def ComPost (W : World) (vb : Value) (bl : List Blk) (e : Ending) (w' : World) : Prop := ∃ (v : Value) (X : Blk), e = .returned (.tuple #[v, .int .i64 0]) ∧ Put W w' vb v (bl ++ [X])
set_option maxRecDepth 100000 in
set_option maxHeartbeats 4000000 in
theorem withCommit_ok {W : World} {vb : Value} {bl : List Blk} (hT : Tab W) (hb : BRow W vb bl) (hb1 : 1 ≤ bl.length) (hb2 : bl.length ≤ 255) (s : Nat) (h1 : 1 ≤ s) (h2 : s ≤ 2147483648) :
    Calls Tryd.prog 29 #[vb, .int .u32 (s : Int)] W (ComPost W vb bl) := by
  have HT := Lib.hid hT
  obtain ⟨gb, cb, hvb, hgb⟩ := hb.open_ (by omega)
  subst hvb
  obtain ⟨nb, hnb⟩ : ∃ nb, nb = bl.length := ⟨_, rfl⟩
  rw [← hnb] at hb hb1 hb2 ⊢
  have HB := Lib.hid hb
  have HNB := Lib.hid hnb
  have HGB := Lib.hid hgb
  obtain ⟨ip, hip, hu0, hu1, hu2⟩ := info_parts info110
  have HIP := Lib.hid hip
  obtain ⟨ib, hib, hx0, hx1, hx2⟩ := info_parts info32b
  have HIB := Lib.hid hib
  have hz := zero32
  have HZ := Lib.hid zero_size
  obtain ⟨Z, hZ⟩ : ∃ Z, Z = (bc zeroB).toArray := ⟨_, rfl⟩
  rw [← hZ] at hz HZ hx0
  have HX0 := Lib.hid hx0
  clear hT hb hip hib hZ hnb hx0 hgb
  go_enter Tryd.func29, Tryd.ntmps29
  go_upto_region 2 with (refine wpList_make_full rfl 109 _ _ rfl 110 ip (.slice none 0 0) [.slice none 0 0] rfl 1 24 Tryd.underlying109 HIP.out hu0 hu1 hu2 rfl (by omega) nb rfl rfl (by omega) (by omega) ?_; intro w1 hr1 hg1)
  have HR1 := Lib.hid (show Row w1 110 1 (.slice (some ⟨W.heap.size, 0, none⟩) nb nb) ((List.replicate nb (.slice none 0 0)).map pcell) by rw [List.map_replicate]; exact hr1)
  have HG1 := Lib.hid hg1
  clear hr1 hg1
  obtain ⟨U, hU⟩ : ∃ U, U = W.heap.size := ⟨_, rfl⟩
  rw [← hU] at HR1 ⊢
  have HU := Lib.hid hU
  clear hU
  go_wp2
  go_loopw [15] (fun t15 wr => ∃ (i : Nat) (l : List Value), i ≤ nb ∧ t15 = .int .i64 (i : Int) ∧ l.length = nb ∧ Hid ((∀ j, j < i → l[j]? = some (.slice (some ⟨gb, j * 256, none⟩) 256 256)) ∧ Row wr 110 1 (.slice (some ⟨U, 0, none⟩) nb nb) (l.map pcell) ∧ Grow W wr)) (fun t15 _ => nb - (intOf t15).toNat)
  case atStart => exact ⟨0, List.replicate nb (.slice none 0 0), by omega, by go_num, List.length_replicate, Lib.hid ⟨fun j hj => by omega, HR1.out, HG1.out⟩⟩
  case round =>
    obtain ⟨i, l, hin, rfl, hll, HK⟩ := hrel
    by_cases hi : i < nb
    · have hth := (Row.there HK.out.2.1 (i := i) (by rw [List.length_map]; omega)) 0 (by omega)
      rw [Nat.mul_one, Nat.add_zero] at hth
      have c0 : (wr.cell? ⟨U, i, none⟩).isSome = true := hth.1
      have f0 : wr.frozen? ⟨U, i, none⟩ = false := hth.2
      obtain ⟨y0, c0⟩ := Option.isSome_iff_exists.1 c0
      have b0 : (0 : Int) ≤ (i : Int) := by omega
      have b1 : (i : Int) < (nb : Int) := by omega
      have HK2 := Lib.hid (show Row (wr.setCells U (i * 1) [.slice (some ⟨gb, i * 256, none⟩) 256 256]) 110 1 (.slice (some ⟨U, 0, none⟩) nb nb) ((l.set i (.slice (some ⟨gb, i * 256, none⟩) 256 256)).map pcell) by
        rw [List.map_set]
        exact Row.store HK.out.2.1 (c := pcell (.slice (some ⟨gb, i * 256, none⟩) 256 256)) rfl (by rw [List.length_map]; omega))
      have HLs := Lib.hid (show ∀ j, j < i + 1 → (l.set i (.slice (some ⟨gb, i * 256, none⟩) 256 256))[j]? = some (.slice (some ⟨gb, j * 256, none⟩) 256 256) from fun j hj => by
        by_cases e : j = i
        · subst e; rw [List.getElem?_set_self (by omega)]
        · rw [List.getElem?_set_ne (fun h => e h.symm)]; exact HK.out.1 j (by omega))
      have HGs := Lib.hid (show Grow W (wr.setCell ⟨U, i, none⟩ (.slice (some ⟨gb, i * 256, none⟩) 256 256)) from Below.trans HK.out.2.2 ((Touch.setCell (S := [U]) wr (a := ⟨U, i, none⟩) (by simp) _).below HK.out.2.2.size (by rw [HU.out]; simp)))
      have HRs := Lib.hid (show Row (wr.setCell ⟨U, i, none⟩ (.slice (some ⟨gb, i * 256, none⟩) 256 256)) 110 1 (.slice (some ⟨U, 0, none⟩) nb nb) ((l.set i (.slice (some ⟨gb, i * 256, none⟩) 256 256)).map pcell) by have := HK2.out; rwa [Nat.mul_one] at this)
      clear hth HK2
      go_wp2_with fail
      go_roundw
      case rel => exact ⟨i + 1, l.set i (.slice (some ⟨gb, i * 256, none⟩) 256 256), by omega, by go_num, by rw [List.length_set]; exact hll, Lib.hid ⟨HLs.out, HRs.out, HGs.out⟩⟩
      case measure => simp [intOf]; omega
    · obtain rfl : i = nb := by omega
      rename World => w3
      have hle : l = ((List.range i).map (· * 256)).map (fun o => Value.slice (some ⟨gb, o, none⟩) 256 256) := by
        apply List.ext_getElem?
        intro j
        by_cases hj : j < i
        · rw [HK.out.1 j hj, List.getElem?_map, List.getElem?_map, List.getElem?_range hj]; rfl
        · rw [List.getElem?_eq_none (by omega), List.getElem?_eq_none (by simp; omega)]
      have HPS := Lib.hid (show PSee w3 (.slice (some ⟨U, 0, none⟩) i i) gb ((List.range i).map (· * 256)) from ⟨by
        have h := HK.out.2.1.see
        rw [hle, List.map_map] at h
        exact h, fun o ho => by
        obtain ⟨j, hj, rfl⟩ := List.mem_map.1 ho
        have hj2 : j < bl.length := by rw [← HNB.out]; exact List.mem_range.1 hj
        exact ⟨bl[j], HB.out.blk (List.getElem_mem hj2), range_touch (BRow.range HB.out (List.getElem?_eq_getElem hj2)) (Touch.of_below (S := []) HK.out.2.2) HGB.out (by simp)⟩⟩)
      have HG3 := Lib.hid HK.out.2.2
      have HT3 := Lib.hid (HT.out.grow HK.out.2.2)
      have HLO := Lib.hid (show ((List.range i).map (· * 256)).length ≤ 100000 by simp; omega)
      clear HK HR1 HG1 hll hle
      go_wp2_with fail
      refine (sum_some HT3.out HPS.out HLO.out).mono ?_
      rintro e w' ⟨sm, hsm, rfl, rfl⟩
      go_wp2_with fail
      refine (commit_ok s i sm h1 h2 hb1 (by omega) hsm _).mono ?_
      intro e w4 hp
      obtain ⟨X, rfl, hX, hg4⟩ := hp
      have HXl := Lib.hid hX
      have HG4 := Lib.hid (HG3.out.trans hg4)
      obtain ⟨Y, hY⟩ : ∃ Y, Y = (bc X).toArray := ⟨_, rfl⟩
      have HY := Lib.hid hY
      have HYs := Lib.hid (show Y.size = 256 by rw [hY, List.size_toArray, bc_length, hX])
      have HY1 := Lib.hid (show Y.all (·.oneCell') = true by rw [hY]; exact all_oneCell_toArray (bc_one _))
      rw [← hY]
      clear hY hg4 hX
      go_upto_region 8 with (refine wpList_store_row rfl 34 _ _ rfl w4.heap.size Y rfl rfl 34 Z (heap_alloc_last _ _) (by rw [HYs.out]; exact size32) (by rw [HYs.out]; exact HZ.out) HY1.out ?_)
      have HB5 := Lib.hid (show ((w4.alloc (.cells Z 34)).setRow w4.heap.size Y).heap[w4.heap.size]? = some (.cells Y 34) from setRow_heap _ _ _ _ _ _ (heap_alloc_last _ _))
      have HG5 := Lib.hid (show Grow W ((w4.alloc (.cells Z 34)).setRow w4.heap.size Y) from HG4.out.trans (below_setRow (Grow.alloc _ _) (Nat.le_refl _) _))
      generalize (w4.alloc (.cells Z 34)).setRow w4.heap.size Y = w5 at *
      have HP5 := Lib.hid (Put.start HB.out (Grow.trans HG5.out (Grow.alloc w5 (.cells (bc X).toArray 34))))
      have HBS := Lib.hid (buildSlice_blk X HXl.out)
      have HBSY := Lib.hid (show ∀ w : World, (Instr.buildSlice 57 1 #[(0, .agg Y)]).run Tryd.prog w = .ok (.slice (some ⟨w.heap.size, 0, none⟩) 1 1) (w.alloc (.cells (bc X).toArray 34)) from fun w => by rw [HY.out]; exact HBS.out w)
      go_wp2_with (first | (refine wpList_load_row rfl 34 _ rfl w4.heap.size rfl 34 Y (0, 0) _ HB5.out Tryd.underlying34 rfl (by rw [HYs.out]; exact size32) ?_) | (refine wpList_buildSlice rfl 57 1 _ rfl (by simp only [List.map_toArray, List.map_cons, List.map_nil]; exact HBSY.out _) ?_) | (at_builtin; go_loud (refine wpList_append_row rfl _ _ 57 rfl 34 ib (.agg Z) 256 256 Tryd.underlying57 HIB.out HX0.out hx1 hx2 HZ.out (by omega) (.slice (some ⟨gb, 0, none⟩) i cb) (bl.map bc) rfl HP5.out.row _ 1 (bc X) rfl (by rw [bc_length]; exact HXl.out) (new_cells _ _ _) (bc_one X) (by rw [List.length_map, ← HNB.out]; omega) (by omega) ?_); intro v' wa happ htch))
      have HF := Lib.hid (HP5.out.app1 happ htch)
      clear happ htch
      go_ret2
      exact ⟨v', X, rfl, HF.out⟩
#print axioms withCommit_ok
end Go.Proofs.YtieknecbheeekaaDoor
