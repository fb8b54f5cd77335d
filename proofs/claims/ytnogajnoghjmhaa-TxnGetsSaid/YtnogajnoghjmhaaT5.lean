/- parts.clone: the same parts in new memory. -/
import Derived.Test.YtnogajnoghjmhaaT5a
set_option linter.unusedVariables false
set_option linter.unusedSimpArgs false
namespace Go.Proofs.Ytnogajnoghjmhaa
open Go.RowKit Go.Maps

def intOfV : Value → Int
  | .int _ a => a
  | _ => 0
/-- the table that the clone fills: the first i blocks are in it -/
structure CInv (w : World) (tB tm seq i : Nat) (zs : List Int) (wr : World) : Prop where
  tab : ∃ m, Rev.Tab wr tB tm i m ∧ m.Nodup ∧ m.Perm ((zs.take i).map fun z => (z, seq))
  touch : Touch [tm] w wr
theorem clone_step {seq i : Nat} {zs : List Int} (hlt : zs.Pairwise (· < ·)) {z : Int} (hz : zs[i]? = some z) {m : List Rev.Rc} (hn : m.Nodup) (hp : m.Perm ((zs.take i).map fun z => (z, seq))) :
    (Rev.insR m (z, seq)).Nodup ∧ (Rev.insR m (z, seq)).Perm ((zs.take (i + 1)).map fun z => (z, seq)) := by
  have hi : i < zs.length := (List.getElem?_eq_some_iff.1 hz).1
  have hzi : zs[i] = z := (List.getElem?_eq_some_iff.1 hz).2
  have hnd : zs.Nodup := hlt.imp fun h => by omega
  have hnot : (z, seq) ∉ m := by
    intro hm
    obtain ⟨y, hy, he⟩ := List.mem_map.1 (hp.mem_iff.1 hm)
    have he : y = z := congrArg Prod.fst he
    subst he
    obtain ⟨k, hk, hke⟩ := List.mem_take_iff_getElem.1 hy
    have := List.pairwise_iff_getElem.1 hlt k i (by omega) hi (by omega)
    omega
  have he : Rev.delR m (z, seq) = m := List.filter_eq_self.2 fun r hr => decide_eq_true fun e => hnot (e ▸ hr)
  unfold Rev.insR
  rw [he]
  refine ⟨List.nodup_append.2 ⟨hn, by simp, fun a ha b hb e => ?_⟩, ?_⟩
  · rw [List.mem_singleton.1 hb] at e; exact hnot (e ▸ ha)
  · rw [List.take_add_one, hz, List.map_append]
    exact hp.append (List.Perm.refl _)
set_option maxHeartbeats 2000000 in
theorem clone_ok {w : World} {B : Nat} {a : PA} {N seq : Nat} {s : PS} (h : PIs w a N seq s) (hN : N ≤ 100000) (hseq : seq < 4294967296)
    (c0 : w.cell? ⟨B, 0, none⟩ = some (.map (some a.c))) (c1 : w.cell? ⟨B, 1, none⟩ = some (.map (some a.o))) (c2 : w.cell? ⟨B, 2, none⟩ = some (.map (some a.f))) (c3 : w.cell? ⟨B, 3, none⟩ = some (.pointer (some ⟨a.B, 0, none⟩))) (hBw : B < w.heap.size) :
    Calls Try.prog 32 #[.pointer (some ⟨B, 0, none⟩), .int .u32 (seq : Int)] w fun e w' => ∃ b, e = .returned (.agg (cellsP b).toArray) ∧ PIs w' b N seq s ∧ Grow w w' ∧ b.ids.Nodup ∧ ∀ i ∈ b.ids, w.heap.size ≤ i := by
  have H := Lib.hid h
  have HS := Lib.hid hseq
  obtain ⟨m, hT, hmn, hmp⟩ := h.rv.tab
  have hlen : m.length ≤ N := by rw [hmp.length_eq, List.length_map]; exact h.rv.le
  have HMP := Lib.hid hmp
  have HTb := Lib.hid hT
  have HML := Lib.hid (show m.length ≤ 100000 by omega)
  clear h hT hmn hmp hlen hseq
  go_enter Try.func32, Try.ntmps32
  go_wp2_with fail
  refine (Rev.new_ok _).mono ?_
  rintro e w1 ⟨tB, tm, rfl, HT, HG, hB, hm⟩
  have ht1 : Touch [] w w1 := (Touch.alloc [] w _).trans (Touch.of_below (S := []) HG) (by simp)
  have HA := Lib.hid ((HG.block w.heap.size (by simp)).trans (heap_alloc_last w _))
  have HT := Lib.hid HT
  have HT1 := Lib.hid ht1
  have HTb1 := Lib.hid (HTb.out.kept ht1 (by simp) (by simp))
  have d3 := (ht1.cell (a := ⟨B, 3, none⟩) hBw (by simp)).trans c3
  have HZ := Lib.hid (sortI_ofR HMP.out H.out.rv.lt)
  have HZL := Lib.hid H.out.rv.lt
  have HZO := Lib.hid H.out.rv.ok
  have HZE := Lib.hid H.out.rv.le
  generalize hzs : s.rv = zs at *
  have HZS := Lib.hid hzs
  clear ht1 hzs
  go_wp2_with fail
  refine (Rev.of_ok HTb1.out HML.out seq).mono ?_
  rintro e w2 ⟨v, rfl, hrow, hg2, hown⟩
  rw [HZ.out] at hrow
  have HG2 := Lib.hid hg2
  have HR := Lib.hid hrow
  obtain ⟨ra, rc, hv⟩ := hrow.len
  rw [List.length_map] at hv
  obtain ⟨n, hn⟩ : ∃ n, n = zs.length := ⟨_, rfl⟩
  rw [← hn] at hv
  subst hv
  have HN := Lib.hid hn
  have HOW := Lib.hid hown
  have HT2 := Lib.hid (HT.out.kept (Touch.of_below (S := []) hg2) (by simp) (by simp))
  have hnN : n ≤ N := by have := HZE.out; omega
  clear hrow hg2 hn hown
  go_wp2_with fail
  go_loopw [16] (fun t16 wr => ∃ (i : Nat), i ≤ n ∧ t16 = .int .i64 (i : Int) ∧ Hid (CInv w2 tB tm seq i zs wr)) (fun t16 _ => n - (intOfV t16).toNat)
  case atStart => exact ⟨0, by omega, rfl, Lib.hid ⟨⟨[], HT2.out, List.nodup_nil, List.Perm.refl _⟩, Touch.refl _ _⟩⟩
  case round =>
    obtain ⟨i, hi, rfl, HI⟩ := hrel
    by_cases hlt : i < n
    · have hiz : i < zs.length := by rw [← HN.out]; exact hlt
      obtain ⟨z, hz⟩ : ∃ z, zs[i]? = some z := ⟨zs[i], by simp [hiz]⟩
      obtain ⟨ga, ca', hv, hgl, _⟩ := HR.out.open_ (by rw [List.length_map]; omega)
      rw [List.length_map, ← HN.out] at hv
      cases hv
      obtain ⟨mi, hTi, hni, hpi⟩ := HI.out.tab
      have hgt : ga ∉ [tm] := fun hm => by
        have h1 := HOW.out ga rfl
        have h2 := HT.out.lt.2
        rw [List.mem_singleton.1 hm] at h1
        omega
      have y0 := IRow.cell (Row.kept HR.out HI.out.touch (by intro g hg; cases hg; exact hgt)) hz
      have b0 : (0 : Int) ≤ (i : Int) := by omega
      have b1 : (i : Int) < (n : Int) := by omega
      have HTi := Lib.hid hTi
      have HST := Lib.hid (clone_step HZL.out hz hni hpi)
      have HZK := Lib.hid (HZO.out z (List.mem_of_getElem? hz))
      clear hz hiz hTi hni hpi
      go_wp2_with fail
      refine (Rev.add_ok HTi.out (by omega) (z, seq) ⟨HZK.out.1.1, HZK.out.1.2, HS.out⟩ HZK.out.2).mono ?_
      rintro e w4 ⟨rfl, hT4, ht4⟩
      have HI4 := Lib.hid (show CInv w2 tB tm seq (i + 1) zs w4 from ⟨⟨_, hT4, HST.out.1, HST.out.2⟩, HI.out.touch.trans ht4 (fun k hk => .inl hk)⟩)
      clear hT4 ht4
      go_wp2_with fail
      go_roundw
      case rel => exact ⟨i + 1, by omega, by go_num, HI4⟩
      case measure => simp [intOfV]; omega
    · obtain rfl : i = n := by omega
      go_wp2_with fail
      have hg2 := HG2.out
      have hti := HI.out.touch
      have hA1 := (Array.getElem?_eq_some_iff.1 HA.out).1
      have hT := HT.out.lt
      have tAll : Touch [tm] w1 wr := (Touch.of_below (S := [tm]) hg2).trans hti (by simp)
      have hmw : w.heap.size + 1 ≤ tm := by simpa using hm
      have hBw' : w.heap.size + 1 ≤ tB := by simpa using hB
      have tW : Touch [] w wr := HT1.out.trans tAll (by simp; omega)
      refine clone_reg7 B w.heap.size tB a.c a.o a.f N s.ch s.od s.fr wr ?hb0 ?hb ?hl0 ?hl1 ?hl2 ?hm0 ?hm1 ?hm2 ?n0 ?n1 ?n2 ?ha _ _ _ _ _ _ _ _ _ _ _ _ _ _ _ _ _ _ _ _ _ _ _ _ _ _ _ _ _ _ _ _ _ _ _ _ _ _ _ _ (Lib.hid ?hk)
      case hb0 => exact Lib.hid (by have := tAll.size; omega)
      case hb => exact Lib.hid ⟨Nat.lt_of_lt_of_le hBw tW.size, by omega⟩
      case hl0 => exact Lib.hid ((tW.cell (a := ⟨B, 0, none⟩) hBw (by simp)).trans c0)
      case hl1 => exact Lib.hid ((tW.cell (a := ⟨B, 1, none⟩) hBw (by simp)).trans c1)
      case hl2 => exact Lib.hid ((tW.cell (a := ⟨B, 2, none⟩) hBw (by simp)).trans c2)
      case hm0 => exact Lib.hid (H.out.ch.kept tW (by simp))
      case hm1 => exact Lib.hid (H.out.od.kept tW (by simp))
      case hm2 => exact Lib.hid (H.out.fr.kept tW (by simp))
      case n0 => exact Lib.hid (by have := H.out.ch.lt; omega)
      case n1 => exact Lib.hid (by have := H.out.od.lt; omega)
      case n2 => exact Lib.hid (by have := H.out.fr.lt; omega)
      case ha => exact Lib.hid ((tAll.block w.heap.size hA1 (by simp; omega)).trans HA.out)
      case hk =>
        intro u25 u26 u27 u28 u29 u30 u31 u32 u33 u34 u35 u36 u37 u38 u39 u40 u41 wz htz hAz hz0 hz1 hz2
        have HAZ := Lib.hid hAz
        go_wp2_with fail
        refine bodyPost_ret (results_cell_row rfl _ _ w.heap.size 64 _ (0, 0) _ rfl hAz Try.underlying64 rfl (by exact infoP)) rfl ?_
        refine ⟨⟨wr.heap.size, wr.heap.size + 1, wr.heap.size + 2, tB, tm⟩, rfl, ⟨hz0, hz1, hz2, ?_⟩, ?_, ?_, ?_⟩
        · obtain ⟨m', hTm, hmn, hmp⟩ := HI.out.tab
          have ho : tB ∉ [w.heap.size] := by simp; omega
          have ho2 : tm ∉ [w.heap.size] := by simp; omega
          have hT' := hTm.kept htz ho ho2
          rw [HN.out, List.take_length] at hmp
          obtain ⟨q1, D, q2, q3⟩ := hT'
          exact { tab := ⟨m', ⟨q1, D, q2.mono hnN, q3⟩, hmn, by rw [HZS.out]; exact hmp⟩, lt := by rw [HZS.out]; exact HZL.out, ok := by rw [HZS.out]; exact HZO.out, le := by rw [HZS.out]; exact HZE.out }
        · exact (tW.trans htz (by simp)).below (Nat.le_refl _) (by simp)
        · have hne := HT.out.ne
          have := tAll.size
          simp only [PA.ids, List.nodup_cons, List.mem_cons, List.not_mem_nil, or_false, not_or]
          refine ⟨?_, ?_, ?_, ?_, ?_⟩
          all_goals first | omega | simp
        · intro i hi
          have := tW.size
          simp only [PA.ids, List.mem_cons, List.not_mem_nil, or_false] at hi
          omega
#print axioms clone_ok
end Go.Proofs.Ytnogajnoghjmhaa
