/- Trans. -/
import Derived.Test.YtnogajnoghjmhaaT13a
set_option linter.unusedVariables false
set_option linter.unusedSimpArgs false
namespace Go.Proofs.Ytnogajnoghjmhaa
open Go.RowKit Go.Maps

/-- the copies of a transaction, by rising blocks -/
def PS.copy (s : PS) (i : Int) : Cp := (i, (lookA s.ch i).getD zeroB)
def PS.copies (s : PS) : List Cp := (sortI (keysA s.ch)).map s.copy
structure TInv (w : World) (cs : List Cp) (v : Value) (wr : World) : Prop where
  row : CRow wr v cs
  grow : Grow w wr
  vl : ∀ g, v.ownBlock = some g → w.heap.size ≤ g
theorem TInv.app {w wr w2 wa : World} {cs : List Cp} {v v' : Value} {c : Cp} (h : TInv w cs v wr) (hg : Grow wr w2) (ha : AppAtE 46 257 w2 v (cs.map ccell ++ [ccell c]) v' wa) (ht : Touch (ownL v) w2 wa) : TInv w (cs ++ [c]) v' wa where
  row := by unfold CRow; rw [List.map_append]; exact ha.1
  grow := Below.trans (Grow.trans h.grow hg) (ht.below (Nat.le_trans h.grow.size hg.size) (fun j hj => h.vl _ (ownL_mem.1 hj)))
  vl := fun g e => by
    rcases ha.2 with h1 | ⟨g', h1, h2⟩
    · exact h.vl g (h1 ▸ e)
    · rw [e] at h1; cases h1
      have h3 := h.grow.size
      have h4 := hg.size
      omega
theorem infoT : (Try.prog.info? 41).map (·.size) = some 3 := by kernel_rfl
theorem zeroT (w : World) : (zeroValue 41).run Try.prog w = .ok (.agg #[.int .u32 0, .slice none 0 0, .slice none 0 0]) w := (zero_of_info (show (Try.prog.info? 41).map (fun i => (i.zero, i.size)) = some (some (.agg #[.int .u32 0, .slice none 0 0, .slice none 0 0]), 3) by kernel_rfl)).1 w
set_option maxRecDepth 100000 in
set_option maxHeartbeats 2000000 in
theorem trans_is {w : World} {B : Nat} {a : PA} {N seq : Nat} {f : Bool} {s : PS} (h : TV w B a N seq f s) (hN : N ≤ 100000) : Calls Try.prog 15 #[.pointer (some ⟨B, 0, none⟩)] w fun e w' => ∃ vc vr, e = .returned (.agg #[.int .u32 (seq : Int), vc, vr]) ∧ CRow w' vc s.copies ∧ IRow w' vr s.rv ∧ Grow w w' ∧ (∀ g, vc.ownBlock = some g → w.heap.size ≤ g) ∧ (∀ g, vr.ownBlock = some g → w.heap.size ≤ g) := by
  obtain ⟨i1, hi1, hy0, hy1, hy2⟩ := info_parts info40
  have HI1 := Lib.hid hi1
  have hzt := zeroT
  have hkl : (keysA s.ch).length ≤ N := by rw [keysA_length]; obtain ⟨_, _, _, hle⟩ := h.p.ch; exact hle
  have HKO := Lib.hid (show ∀ z ∈ sortI (keysA s.ch), IntOk z from fun z hz => by
    obtain ⟨_, _, hA, _⟩ := h.p.ch
    exact hA.ok ((sortI_perm _).mem_iff.1 hz))
  have h0 := h.kept (Touch.alloc [] w (.cells #[.int .u32 0, .slice none 0 0, .slice none 0 0] 41))
  have HV0 := Lib.hid h0
  have HM := Lib.hid (made_some h0.c0)
  have HA0 := Lib.hid (heap_alloc_last w (.cells #[.int .u32 0, .slice none 0 0, .slice none 0 0] 41))
  have HG0 := Lib.hid (Grow.alloc w (.cells #[.int .u32 0, .slice none 0 0, .slice none 0 0] 41))
  have HSZ := Lib.hid (show w.heap.size < (w.alloc (.cells #[.int .u32 0, .slice none 0 0, .slice none 0 0] 41)).heap.size by simp)
  clear h h0 hi1
  go_enter Try.func15, Try.ntmps15
  go_wp2_with fail
  generalize (w.alloc (.cells #[.int .u32 0, .slice none 0 0, .slice none 0 0] 41)) = W0 at *
  refine HM.out.mono ?_
  rintro e w' ⟨rfl, rfl⟩
  have c0 := HV0.out.c0
  go_wp2_with fail
  refine (risingB HV0.out.p.ch (by omega)).mono ?_
  rintro e w1 ⟨v, rfl, hrow, hg1, hv1⟩
  have HR := Lib.hid hrow
  have HG1 := Lib.hid hg1
  obtain ⟨ra, rc, hv⟩ := hrow.len
  rw [sortI_length] at hv
  obtain ⟨n, hn⟩ : ∃ n, n = (keysA s.ch).length := ⟨_, rfl⟩
  rw [← hn] at hv hkl
  subst hv
  have HN := Lib.hid hn
  clear hrow hg1 hn hv1 c0
  go_wp2_with fail
  go_loopw [3, 17] (fun t3 t17 wr => ∃ (i : Nat), i ≤ n ∧ t17 = .int .i64 (i : Int) ∧ (∃ a3 n3 c3, t3 = .slice a3 n3 c3) ∧ Hid (TInv w1 (s.copies.take i) t3 wr)) (fun _ t17 _ => n - (intOfV t17).toNat)
  case atStart => exact ⟨0, by omega, rfl, ⟨none, 0, 0, rfl⟩, Lib.hid ⟨rowNil _ _ _, Grow.refl _, fun g e => by cases e⟩⟩
  case round =>
    obtain ⟨i, hi, rfl, ⟨a3, n3, c3, rfl⟩, HI⟩ := hrel
    have HVr := Lib.hid (HV0.out.kept (Touch.of_below (S := []) (Grow.trans HG1.out HI.out.grow)))
    by_cases hlt : i < n
    · have hiz : i < (sortI (keysA s.ch)).length := by rw [sortI_length, ← HN.out]; exact hlt
      obtain ⟨z, hz⟩ : ∃ z, (sortI (keysA s.ch))[i]? = some z := ⟨(sortI (keysA s.ch))[i], by simp [hiz]⟩
      obtain ⟨ga, ca', hv, hgl⟩ := IRow.open_ HR.out (by rw [sortI_length]; have := HN.out; omega)
      rw [sortI_length, ← HN.out] at hv
      cases hv
      have y0 := IRow.cell (Row.kept HR.out (Touch.of_below (S := []) HI.out.grow) (by simp)) hz
      have b0 : (0 : Int) ≤ (i : Int) := by omega
      have b1 : (i : Int) < (n : Int) := by omega
      have HZ := Lib.hid (HKO.out z (List.mem_of_getElem? hz))
      have c0 := HVr.out.c0
      obtain ⟨X, hX⟩ : ∃ X, (lookA s.ch z).getD zeroB = X := ⟨_, rfl⟩
      have HX := Lib.hid hX
      have HXl := Lib.hid (show X.length = 256 from hX ▸ HV0.out.p.ch.blk z)
      have HT := Lib.hid (show s.copies.take (i + 1) = s.copies.take i ++ [(z, X)] by
        unfold PS.copies
        rw [← List.map_take, ← List.map_take, List.take_add_one, hz, List.map_append]
        simp only [Option.toList_some, List.map_cons, List.map_nil, PS.copy, hX])
      have HLk := Lib.hid (show ((s.copies.take i).map ccell).length + 1 ≤ 1000000 by rw [List.length_map, List.length_take]; omega)
      clear hz hiz hX
      have HCL := Lib.hid (show (ccell (z, X)).length = 257 from ccell_length HXl.out)
      have HRI := Lib.hid HI.out.row
      go_wp2_with (first | (at_lookup; refine wpList_mapLookB rfl _ _ rfl a.c N s.ch rfl HVr.out.p.ch z HZ.out rfl HX.out ?_) | (refine wpList_build_copy rfl (.tmp 22) (.tmp 29) rfl z X HXl.out rfl rfl ?_) | (refine wpList_bs_copy rfl (.tmp 30) rfl (z, X) HXl.out rfl ?_; intro wc gc hcl hgc; have HCC := Lib.hid hcl; have HGC := Lib.hid hgc; have HRC := Lib.hid (CRow.grow HRI.out hgc); clear hcl hgc) | (at_builtin; refine wpList_append_row rfl (.tmp 21) (.tmp 31) 39 rfl 46 i1 (.agg (ccell zeroC).toArray) 257 264 Try.underlying39 HI1.out hy0 hy1 hy2 (by show (ccell zeroC).toArray.size = 257; rw [List.size_toArray, ccell_length zeroC_ok]) (by omega) (.slice a3 n3 c3) ((s.copies.take i).map ccell) rfl HRC.out ⟨gc, 0, none⟩ 1 (ccell (z, X)) rfl HCL.out HCC.out (ccell_one _) HLk.out (by omega) ?_; intro v' wa happ htch))
      have HI2 := Lib.hid (show TInv w1 (s.copies.take (i + 1)) v' wa from by rw [HT.out]; exact HI.out.app HGC.out happ htch)
      clear happ htch
      go_roundw
      case rel =>
        obtain ⟨aa, cc, hh⟩ := CRow.len HI2.out.row
        exact ⟨i + 1, by omega, by go_num, ⟨aa, _, cc, hh⟩, HI2⟩
      case measure => simp [intOfV]; omega
    · obtain rfl : i = n := by omega
      have HGr := Lib.hid (Grow.trans HG1.out HI.out.grow)
      go_upto_region 9 with (fail)
      refine trans_reg9 B w.heap.size N seq a f s a3 n3 c3 wr HVr (Lib.hid ⟨HVr.out.lt, HVr.out.c4⟩) hN (Lib.hid ⟨Nat.lt_of_lt_of_le HSZ.out HGr.out.size, (HGr.out.block w.heap.size HSZ.out).trans HA0.out⟩) _ _ _ _ _ _ _ _ _ _ _ _ _ _ _ _ _ _ _ _ _ _ _ _ _ _ _ _ _ _ _ _ _ _ _ _ _ _ _ _ (Lib.hid ?hk)
      intro u34 u35 u36 u37 u38 u39 u40 u41 wz a6 n6 c6 h1 h2 h3
      have HH2 := Lib.hid (h2.block w.heap.size (Nat.lt_of_lt_of_le HSZ.out HGr.out.size) (by simp) |>.trans ((HGr.out.block w.heap.size HSZ.out).trans HA0.out))
      have H1 := Lib.hid h1
      have H2 := Lib.hid h2
      have H3 := Lib.hid h3
      clear h1 h2 h3
      have h4 := heap_set (heap_set (heap_set HH2.out 0 (.int .u32 (seq : Int))) 1 (.slice a3 n3 c3)) 2 (.slice a6 n6 c6)
      have HH4 := Lib.hid h4
      clear h4
      go_wp2_with fail
      refine bodyPost_ret (results_cell_row rfl _ _ w.heap.size 41 _ (0, 0) _ rfl HH4.out Try.underlying41 rfl (by exact infoT)) rfl ?_
      have hcp : s.copies.take i = s.copies := by
        have : s.copies.length = i := by unfold PS.copies; rw [List.length_map, sortI_length, HN.out]
        rw [← this, List.take_length]
      have ht : Touch [w.heap.size] wz (((wz.setCell ⟨w.heap.size, 0, none⟩ (.int .u32 (seq : Int))).setCell ⟨w.heap.size, 1, none⟩ (.slice a3 n3 c3)).setCell ⟨w.heap.size, 2, none⟩ (.slice a6 n6 c6)) :=
        ((Touch.setCell (S := [w.heap.size]) wz (a := ⟨w.heap.size, 0, none⟩) (by simp) _).trans (Touch.setCell (S := [w.heap.size]) _ (a := ⟨w.heap.size, 1, none⟩) (by simp) _) (fun i hi => .inl hi)).trans (Touch.setCell (S := [w.heap.size]) _ (a := ⟨w.heap.size, 2, none⟩) (by simp) _) (fun i hi => .inl hi)
      have hs1 := HSZ.out
      have hs2 := HG1.out.size
      have hs3 := HGr.out.size
      have hvl := HI.out.vl
      have hrow := HI.out.row
      rw [hcp] at hrow
      refine ⟨_, _, rfl, Row.kept (Row.kept hrow H2.out (by simp)) ht (fun g e hm => ?_), Row.kept H1.out ht (fun g e hm => ?_), ?_, fun g e => ?_, fun g e => ?_⟩
      · have := hvl g e; have := List.mem_singleton.1 hm; omega
      · have := H3.out g e; have := List.mem_singleton.1 hm; omega
      · have hs4 := H2.out.size
        have hs0 := HG0.out.size
        exact Below.trans HG0.out (Below.trans (Below.mono HGr.out hs0) (Below.trans (Below.mono H2.out.grow (by omega)) (ht.below (by omega) (by simp))))
      · have := hvl g e; omega
      · have := H3.out g e; omega
#print axioms trans_is
end Go.Proofs.Ytnogajnoghjmhaa
