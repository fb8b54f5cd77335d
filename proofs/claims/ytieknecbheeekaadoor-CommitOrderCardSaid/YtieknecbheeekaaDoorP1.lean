/- pack.withRevokes, withCommit: the walks. -/
import Derived.Test.YtieknecbheeekaaDoorP0
set_option linter.unusedVariables false
set_option linter.unusedSimpArgs false
namespace Go.Proofs.YtieknecbheeekaaDoor
open Go.RowKit Go.Maps

theorem info24 : (Tryd.prog.info? 24).map (fun i => (i.zero, i.size, i.bytes)) = some (some (.int .u32 0), 1, 4) := by kernel_rfl
/-- numbers of 32 bits -/
def n32 (z : Int) : Nat := (z % 4294967296).toNat
theorem n32_eq (z : Int) : IntKind.u32.wrap z = (n32 z : Int) := by rw [IntKind.wrap_u32]; unfold n32; omega
theorem n32_lt (z : Int) : n32 z < 4294967296 := by unfold n32; omega
theorem ISee.cell {w : World} {g o n cap : Nat} {zs : List Int} (h : ISee w (.slice (some ⟨g, o, none⟩) n cap) zs) {k : Nat} {z : Int} (hk : zs[k]? = some z) : w.cell? ⟨g, o + k, none⟩ = some (.int .i64 z) := by
  obtain ⟨g', o', he, _, hc, _⟩ := h.at_ hk
  cases he
  exact hc
/-- what goes on behind the blocks: one block more; an error where it is told -/
def OnePost (W : World) (vb : Value) (bl : List Blk) (n : Nat) (e : Ending) (w' : World) : Prop := ∃ (v : Value) (X : Blk) (er : Int), e = .returned (.tuple #[v, .int .i64 er]) ∧ Put W w' vb v (bl ++ [X]) ∧ (n = 1 → er = 0)
set_option maxRecDepth 100000 in
set_option maxHeartbeats 4000000 in
theorem withRevokes_ok {W : World} {vb v : Value} {bl : List Blk} {zs : List Int} (hb : BRow W vb bl) (hbl : bl.length ≤ 1000) (hs : ISee W v zs) (s : Nat) (h1 : 1 ≤ s) (h2 : s ≤ 2147483648) (hn1 : 1 ≤ zs.length) (hn2 : zs.length ≤ 60) :
    Calls Tryd.prog 28 #[vb, .int .u32 (s : Int), v] W (OnePost W vb bl zs.length) := by
  have HB := Lib.hid hb
  have HS := Lib.hid hs
  obtain ⟨a, cap, hv⟩ := hs.len
  obtain ⟨n, hn⟩ : ∃ n, n = zs.length := ⟨_, rfl⟩
  rw [← hn] at hv hn1 hn2 ⊢
  subst hv
  have HN := Lib.hid hn
  obtain ⟨i24, hi24, hu0, hu1, hu2⟩ := info_parts info24
  have HI24 := Lib.hid hi24
  obtain ⟨ib, hib, hx0, hx1, hx2⟩ := info_parts info32b
  have HIB := Lib.hid hib
  have hz := zero32
  have HZ := Lib.hid zero_size
  obtain ⟨Z, hZ⟩ : ∃ Z, Z = (bc zeroB).toArray := ⟨_, rfl⟩
  rw [← hZ] at hz HZ hx0
  have HX0 := Lib.hid hx0
  obtain ⟨ab, cb, hvb⟩ := hb.len
  subst hvb
  obtain ⟨nb, hnb⟩ : ∃ nb, nb = bl.length := ⟨_, rfl⟩
  rw [← hnb] at HB ⊢
  have HNB := Lib.hid hnb
  have HBL := Lib.hid hbl
  clear hb hs hn hi24 hib hZ hnb hx0 hbl
  go_enter Tryd.func28, Tryd.ntmps28
  go_upto_region 2 with (refine wpList_make_full rfl 107 _ _ rfl 24 i24 (.int .u32 0) [.int .u32 0] rfl 1 4 Tryd.underlying107 HI24.out hu0 hu1 hu2 rfl (by omega) n rfl rfl (by omega) (by omega) ?_; intro w1 hr1 hg1)
  have HR1 := Lib.hid (show Row w1 24 1 (.slice (some ⟨W.heap.size, 0, none⟩) n n) ((List.replicate n 0).map ncell) by rw [List.map_replicate]; exact hr1)
  have HG1 := Lib.hid hg1
  clear hr1 hg1
  obtain ⟨U, hU⟩ : ∃ U, U = W.heap.size := ⟨_, rfl⟩
  rw [← hU] at HR1 ⊢
  have HU := Lib.hid hU
  clear hU
  go_wp2
  go_loopw [18] (fun t18 wr => ∃ (i : Nat) (l : List Nat), i ≤ n ∧ t18 = .int .i64 (i : Int) ∧ l.length = n ∧ Hid ((∀ t ∈ l, t < 4294967296) ∧ Row wr 24 1 (.slice (some ⟨U, 0, none⟩) n n) (l.map ncell) ∧ Grow W wr)) (fun t18 _ => n - (intOf t18).toNat)
  case atStart => exact ⟨0, List.replicate n 0, by omega, by go_num, List.length_replicate, Lib.hid ⟨fun t ht => by rw [(List.mem_replicate.1 ht).2]; omega, HR1.out, HG1.out⟩⟩
  case round =>
    obtain ⟨i, l, hin, rfl, hll, HK⟩ := hrel
    by_cases hi : i < n
    · obtain ⟨z, hzi⟩ : ∃ z, zs[i]? = some z := ⟨zs[i]'(by rw [← HN.out]; exact hi), by simp⟩
      obtain ⟨g, o, rfl, _, hc, _⟩ := (HS.out.grow HK.out.2.2).at_ hzi
      have hu := n32_eq z
      have hth := (Row.there HK.out.2.1 (i := i) (by rw [List.length_map]; omega)) 0 (by omega)
      rw [Nat.mul_one, Nat.add_zero] at hth
      have c0 : (wr.cell? ⟨U, i, none⟩).isSome = true := hth.1
      have f0 : wr.frozen? ⟨U, i, none⟩ = false := hth.2
      obtain ⟨y0, c0⟩ := Option.isSome_iff_exists.1 c0
      have b0 : (0 : Int) ≤ (i : Int) := by omega
      have b1 : (i : Int) < (n : Int) := by omega
      have HK2 := Lib.hid (show Row (wr.setCells U (i * 1) [.int .u32 (n32 z : Int)]) 24 1 (.slice (some ⟨U, 0, none⟩) n n) ((l.set i (n32 z)).map ncell) by
        rw [List.map_set]
        exact Row.store HK.out.2.1 (c := ncell (n32 z)) rfl (by rw [List.length_map]; omega))
      have HLs := Lib.hid (show ∀ t ∈ l.set i (n32 z), t < 4294967296 from fun t ht => by
        rcases List.mem_or_eq_of_mem_set ht with h | h
        · exact HK.out.1 t h
        · rw [h]; exact n32_lt z)
      have HGs := Lib.hid (show Grow W (wr.setCell ⟨U, i, none⟩ (.int .u32 (n32 z : Int))) from Below.trans HK.out.2.2 ((Touch.setCell (S := [U]) wr (a := ⟨U, i, none⟩) (by simp) _).below HK.out.2.2.size (by rw [HU.out]; simp)))
      have HRs := Lib.hid (show Row (wr.setCell ⟨U, i, none⟩ (.int .u32 (n32 z : Int))) 24 1 (.slice (some ⟨U, 0, none⟩) n n) ((l.set i (n32 z)).map ncell) by have := HK2.out; rwa [Nat.mul_one] at this)
      clear hth hzi HK2
      go_wp2_with fail
      go_roundw
      case rel => exact ⟨i + 1, l.set i (n32 z), by omega, by go_num, by rw [List.length_set]; exact hll, Lib.hid ⟨HLs.out, HRs.out, HGs.out⟩⟩
      case measure => simp [intOf]; omega
    · obtain rfl : i = n := by omega
      have HLL := Lib.hid hll
      rename World => w3
      have HRV := Lib.hid (revoke_ok HK.out.2.1.see HK.out.1 s h1 h2 (by omega) (by omega))
      rw [hll] at HRV
      have HG3 := Lib.hid HK.out.2.2
      clear HK HR1 HG1 hll
      go_wp2_with fail
      refine HRV.out.mono ?_
      intro e w4 hp
      obtain ⟨X, er, rfl, hX, hg4, he⟩ := hp
      have HXl := Lib.hid hX
      have HE := Lib.hid he
      have HG4 := Lib.hid (HG3.out.trans hg4)
      obtain ⟨Y, hY⟩ : ∃ Y, Y = (bc X).toArray := ⟨_, rfl⟩
      have HY := Lib.hid hY
      have HYs := Lib.hid (show Y.size = 256 by rw [hY, List.size_toArray, bc_length, hX])
      have HY1 := Lib.hid (show Y.all (·.oneCell') = true by rw [hY]; exact all_oneCell_toArray (bc_one _))
      rw [← hY]
      clear hY hg4 he hX
      go_upto_region 8 with (refine wpList_store_row rfl 34 _ _ rfl w4.heap.size Y rfl rfl 34 Z (heap_alloc_last _ _) (by rw [HYs.out]; exact size32) (by rw [HYs.out]; exact HZ.out) HY1.out ?_)
      have HB5 := Lib.hid (show ((w4.alloc (.cells Z 34)).setRow w4.heap.size Y).heap[w4.heap.size]? = some (.cells Y 34) from setRow_heap _ _ _ _ _ _ (heap_alloc_last _ _))
      have HG5 := Lib.hid (show Grow W ((w4.alloc (.cells Z 34)).setRow w4.heap.size Y) from HG4.out.trans (below_setRow (Grow.alloc _ _) (Nat.le_refl _) _))
      generalize (w4.alloc (.cells Z 34)).setRow w4.heap.size Y = w5 at *
      have HP5 := Lib.hid (Put.start HB.out (Grow.trans HG5.out (Grow.alloc w5 (.cells (bc X).toArray 34))))
      have HBS := Lib.hid (buildSlice_blk X HXl.out)
      have HBSY := Lib.hid (show ∀ w : World, (Instr.buildSlice 57 1 #[(0, .agg Y)]).run Tryd.prog w = .ok (.slice (some ⟨w.heap.size, 0, none⟩) 1 1) (w.alloc (.cells (bc X).toArray 34)) from fun w => by rw [HY.out]; exact HBS.out w)
      go_wp2_with (first | (refine wpList_load_row rfl 34 _ rfl w4.heap.size rfl 34 Y (0, 0) _ HB5.out Tryd.underlying34 rfl (by rw [HYs.out]; exact size32) ?_) | (refine wpList_buildSlice rfl 57 1 _ rfl (by simp only [List.map_toArray, List.map_cons, List.map_nil]; exact HBSY.out _) ?_) | (at_builtin; go_loud (refine wpList_append_row rfl _ _ 57 rfl 34 ib (.agg Z) 256 256 Tryd.underlying57 HIB.out HX0.out hx1 hx2 HZ.out (by omega) (.slice ab nb cb) (bl.map bc) rfl HP5.out.row _ 1 (bc X) rfl (by rw [bc_length]; exact HXl.out) (new_cells _ _ _) (bc_one X) (by rw [List.length_map]; have := HBL.out; omega) (by omega) ?_); intro v' wa happ htch))
      have HF := Lib.hid (HP5.out.app1 happ htch)
      clear happ htch
      go_ret2
      exact ⟨v', X, er, rfl, HF.out, HE.out⟩
#print axioms withRevokes_ok
end Go.Proofs.YtieknecbheeekaaDoor
