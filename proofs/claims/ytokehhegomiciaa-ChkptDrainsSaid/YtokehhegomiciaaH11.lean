/- A list of committed transactions: Add, the walk. -/
import Derived.Test.YtokehhegomiciaaH10
set_option linter.unusedVariables false
set_option linter.unusedSimpArgs false
namespace Go.Proofs.Ytokehhegomiciaa
open Go.RowKit Go.Maps

def addS (b : Bool) (s : CS) (seq : Nat) (cs : List Cp) (rs : List Int) (start count : Int) : CS := if b then addC s seq cs rs start count else s
def addE (b : Bool) : Int := if b then 0 else 2
def AddPost (B : Nat) (g : G4) (s' : CS) (r : Int) (T : List Nat) (w : World) (e : Ending) (w' : World) : Prop :=
  e = .returned (.int .i64 r) ∧ (∃ T' va' xs', LSt w' B g s' T' va' xs' ∧ (∀ k ∈ T', k ∈ T ∨ w.heap.size ≤ k) ∧ ∀ k ∈ T', k < w'.heap.size) ∧ Touch T w w'
theorem add_not {w : World} {v tv : Value} {seq : Nat} {vc vr : Value} {start count : Int} (htv : tv = .agg #[.int .u32 (seq : Int), vc, vr]) (h1 : vc.oneCell' = true) (h2 : vr.oneCell' = true) (hI : ∀ w', Grow w w' → Calls Try.prog 30 #[v] w' fun e w1 => e = .returned (.bool false) ∧ w' = w1) : Calls Try.prog 12 #[v, tv, .int .i64 start, .int .i64 count] w fun e w' => e = .returned (.int .i64 1) ∧ Grow w w' := by
  subst htv
  have HI := Lib.hid (hI _ (Grow.alloc w (.cells #[.int .u32 (seq : Int), vc, vr] 39)))
  clear hI
  go_enter Try.func12, Try.ntmps12
  go_wp2_with fail
  refine HI.out.mono ?_
  rintro e w' ⟨rfl, rfl⟩
  go_wp2_with fail
  go_ret
  exact ⟨rfl, Grow.alloc _ _⟩
set_option maxRecDepth 100000 in
set_option maxHeartbeats 8000000 in
theorem add_ok {w : World} {B : Nat} {g : G4} {s : CS} {T : List Nat} {va : Value} {xs : List CV} (h : LSt w B g s T va xs) (hTl : ∀ k ∈ T, k < w.heap.size) (hM : g.May) {seq : Nat} {vc vr : Value} {cs : List Cp} {rs : List Int} (hcs : CSee w vc cs) (hrs : ISee w vr rs) (hcl : cs.length ≤ 600) (hrl : rs.length ≤ 600) (hsq : seq < 4294967296) {start count : Int} (hst : IntOk start) (hct : IntOk count) (hvr : ∀ k, vr.ownBlock = some k → rs ≠ [] → k ∉ T ∧ k < w.heap.size) (hlen : s.all.length + 1 ≤ 1000) {b : Bool} (hb : b = true ↔ mayP g s seq cs rs start count) :
    Calls Try.prog 12 #[.pointer (some ⟨B, 0, none⟩), .agg #[.int .u32 (seq : Int), vc, vr], .int .i64 start, .int .i64 count] w (AddPost B g (addS b s seq cs rs start count) (addE b) T w) := by
  have HW := Lib.hid h
  obtain ⟨ac, cc, hvc⟩ := hcs.len
  obtain ⟨ar, cr, hvr0⟩ := hrs.len
  subst hvc hvr0
  obtain ⟨nc, hnc⟩ : ∃ nc, nc = cs.length := ⟨_, rfl⟩
  obtain ⟨nr, hnr⟩ : ∃ nr, nr = rs.length := ⟨_, rfl⟩
  rw [← hnc] at hcs hcl ⊢
  rw [← hnr] at hrs hrl hvr ⊢
  have HNC := Lib.hid hnc
  have HNR := Lib.hid hnr
  have HVR := Lib.hid hvr
  have HTL := Lib.hid hTl
  have h0 := h.grow (Grow.alloc w (.cells #[.int .u32 (seq : Int), .slice ac nc cc, .slice ar nr cr] 39))
  have HCS := Lib.hid (hcs.grow (Grow.alloc w (.cells #[.int .u32 (seq : Int), .slice ac nc cc, .slice ar nr cr] 39)))
  have HRS := Lib.hid (hrs.grow (Grow.alloc w (.cells #[.int .u32 (seq : Int), .slice ac nc cc, .slice ar nr cr] 39)))
  have HB := Lib.hid hb
  have HI := Lib.hid (is_made (b := true) (cell_at h0.li.obj 0))
  have HMay := Lib.hid (may_ok h0 hM (seq := seq) HCS.out HRS.out (by rw [← hnc]; omega) (by rw [← hnr]; omega) start count hb)
  have HH := Lib.hid h0
  have HT := Lib.hid (heap_alloc_last w (.cells #[.int .u32 (seq : Int), .slice ac nc cc, .slice ar nr cr] 39))
  have HW0 := Lib.hid (Grow.alloc w (.cells #[.int .u32 (seq : Int), .slice ac nc cc, .slice ar nr cr] 39))
  have HLN := Lib.hid (show (w.alloc (.cells #[.int .u32 (seq : Int), .slice ac nc cc, .slice ar nr cr] 39)).heap.size = w.heap.size + 1 by simp)
  have HSQ := Lib.hid hsq
  have HST := Lib.hid hst
  have HCT := Lib.hid hct
  clear h h0 hcs hrs hb hnc hnr hvr hM hTl hsq hst hct
  go_enter Try.func12, Try.ntmps12
  generalize hW0 : (w.alloc (.cells #[.int .u32 (seq : Int), .slice ac nc cc, .slice ar nr cr] 39)) = W0 at *
  go_wp2_with fail
  clear hW0
  refine HI.out.mono ?_
  rintro e w' ⟨rfl, rfl⟩
  have t0 : W0.cell? ⟨w.heap.size, 0, none⟩ = some (.int .u32 (seq : Int)) := cell_at HT.out 0
  have t1 : W0.cell? ⟨w.heap.size, 1, none⟩ = some (.slice ac nc cc) := cell_at HT.out 1
  have t2 : W0.cell? ⟨w.heap.size, 2, none⟩ = some (.slice ar nr cr) := cell_at HT.out 2
  go_wp2_with fail
  refine HMay.out.mono ?_
  rintro e w1 ⟨rfl, hg1⟩
  have HG1 := Lib.hid hg1
  clear t0 t1 t2 hg1
  cases b with
  | false =>
    have HR := Lib.hid (show LSt w1 B g s T va xs from HH.out.grow HG1.out)
    have HG := Lib.hid (show Grow w w1 from HW0.out.trans HG1.out)
    go_wp2_with fail
    go_ret
    exact ⟨rfl, ⟨T, _, _, HR.out, fun k hk => .inl hk, fun k hk => Nat.lt_of_lt_of_le (HTL.out k hk) HG.out.size⟩, Touch.of_below HG.out⟩
  | true =>
    have HP := Lib.hid (HB.out.1 rfl)
    have HRI := Lib.hid (rise_of HP.out.cs)
    have HT1 := Lib.hid ((HG1.out.block w.heap.size (by rw [HLN.out]; omega)).trans HT.out)
    have hlt1 : w.heap.size < w1.heap.size := (Array.getElem?_eq_some_iff.1 HT1.out).1
    go_upto_region 5 with (fail)
    refine add_reg5 w.heap.size nc cc seq ac start count w1 (Lib.hid ⟨hlt1, cell_at HT1.out 0⟩) (Lib.hid ⟨hlt1, cell_at HT1.out 1⟩) _ _ _ _ _ _ _ _ _ _ _ _ _ _ _ _ _ _ _ _ _ _ _ _ _ _ _ _ _ _ _ _ _ _ _ _ _ _ _ _ _ _ _ _ _ _ _ _ _ _ _ _ _ _ _ _ _ _ _ _ _ _ _ _ _ _ _ _ _ _ _ _ _ _ _ _ _ _ _ _ _ _ _ _ (Lib.hid ?hk5)
    intro u23 u24 u25 u26 u27 u28 u29 u30 u31 w2 X m hX hm hXo hmap hg2
    have HG2 := Lib.hid (show Grow W0 w2 from HG1.out.trans hg2)
    have HXl := Lib.hid (show W0.heap.size ≤ X from Nat.le_trans HG1.out.size hX)
    have HML := Lib.hid (show W0.heap.size ≤ m from Nat.le_trans HG1.out.size hm)
    have HXO := Lib.hid hXo
    have HMP := Lib.hid hmap
    have HYO := Lib.hid (show ∀ w', Grow W0 w' → w'.heap[w.heap.size]? = some (.cells #[.int .u32 (seq : Int), .slice ac nc cc, .slice ar nr cr] 39) from fun w' hg => (hg.block _ (by rw [HLN.out]; omega)).trans HT.out)
    have k3 : w2.cell? ⟨X, 3, none⟩ = some (.slice none 0 0) := cell_at hXo 3
    have y1 : w2.cell? ⟨w.heap.size, 1, none⟩ = some (.slice ac nc cc) := cell_at (HYO.out _ HG2.out) 1
    obtain ⟨i0, hi0, hz0, hz1, hz2⟩ := info_parts info3
    have HI0 := Lib.hid hi0
    clear hX hm hXo hmap hg2 hi0 hlt1
    go_upto_region 7 with (first | (refine wpList_make_row rfl 37 _ _ rfl 3 i0 (.int .i64 0) 1 8 Try.underlying37 HI0.out hz0 hz1 hz2 nc rfl rfl (by omega) (by omega) ?_; intro w3 hrow3 hg3; have k3' := (hg3.cell (p := ⟨X, 3, none⟩) (Array.getElem?_eq_some_iff.1 HXO.out).1).trans k3; have q3' : w3.frozen? ⟨X, 3, none⟩ = false := frozen_at ((hg3.block X (Array.getElem?_eq_some_iff.1 HXO.out).1).trans HXO.out) 3))
    have hXw3 := (hg3.block X (Array.getElem?_eq_some_iff.1 HXO.out).1).trans HXO.out
    have ht3 : Touch [X] w3 (w3.setCell ⟨X, 3, none⟩ (.slice (some ⟨w2.heap.size, 0, none⟩) 0 nc)) := Touch.setCell _ (by simp) _
    have HA := Lib.hid (show AInv W0 seq start count cs X m 0 (w3.setCell ⟨X, 3, none⟩ (.slice (some ⟨w2.heap.size, 0, none⟩) 0 nc)) from {
      ex := ⟨_, heap_set hXw3 3 _, Row.kept hrow3 ht3 (fun q hq => by have h1 := (Array.getElem?_eq_some_iff.1 HXO.out).1; cases hq; simp; omega), fun q hq => by cases hq; exact HG2.out.size⟩
      map := (HMP.out.kept (Touch.of_below (S := []) hg3) (by simp)).kept ht3 (by simpa using fun e => map_ne_cells HMP.out ⟨_, HXO.out⟩ e.symm)
      grow := Below.trans (HG2.out.trans hg3) (ht3.below (Nat.le_trans HG2.out.size hg3.size) (by simpa using HXl.out))
      x := HXl.out
      m := HML.out })
    generalize w3.setCell ⟨X, 3, none⟩ (.slice (some ⟨w2.heap.size, 0, none⟩) 0 nc) = W4 at *
    clear hXw3 ht3 hrow3 hg3 k3 k3' q3' y1
    have y1 : W4.cell? ⟨w.heap.size, 1, none⟩ = some (.slice ac nc cc) := cell_at (HYO.out _ HA.out.grow) 1
    have hz40 := zero40
    have hzs40 := zsize40
    generalize hZC : (ccell zeroC).toArray = ZC at *
    have HZS := Lib.hid hzs40
    clear hZC hzs40
    go_wp2_with fail
    clear y1
    go_loopw [40] (fun t40 wr => ∃ k : Nat, t40 = .int .i64 (k : Int) ∧ k ≤ nc ∧ Hid (AInv W0 seq start count cs X m k wr)) (fun t40 _ => nc - (intOf t40).toNat)
    case atStart => exact ⟨0, by go_num, by omega, HA⟩
    case round =>
      obtain ⟨k, rfl, hkn, HK⟩ := hrel
      by_cases hk : k < nc
      · obtain ⟨c, hc⟩ : ∃ c, cs[k]? = some c := ⟨cs[k]'(by rw [← HNC.out]; exact hk), by simp⟩
        obtain ⟨gc, oc, rfl, hgc, hrc, y0, hco⟩ := (HCS.out.grow HK.out.grow).at_ hc
        have HRC := Lib.hid hrc
        have HCO := Lib.hid hco
        have HC := Lib.hid hc
        have HSC1 := Lib.hid (csizeL hco.2)
        have HSC2 := Lib.hid (csize hco.2)
        have HSE := Lib.hid (show ZC.size = (ccell c).toArray.size by rw [HZS.out, List.size_toArray, ccell_length hco.2])
        have HOC := Lib.hid (show (ccell c).toArray.all (·.oneCell') = true from all_oneCell_toArray (ccell_one c))
        have b0 : (0 : Int) ≤ (k : Int) := by omega
        have b1 : (k : Int) < (nc : Int) := by omega
        clear hrc hco hc y0
        go_upto_region 10 with (first | (refine wpList_load_mid rfl 35 _ rfl gc (oc + k * 257) rfl (ccell c) _ HRC.out Try.underlying35 rfl HSC1.out ?_) | (refine wpList_store_row rfl 35 _ _ rfl wr.heap.size (ccell c).toArray rfl rfl 35 ZC (heap_alloc_last _ _) HSC2.out HSE.out HOC.out ?_))
        have HX2 := Lib.hid (show ((wr.alloc (.cells ZC 35)).setRow wr.heap.size (ccell c).toArray).heap[wr.heap.size]? = some (.cells (ccell c).toArray 35) from setRow_heap _ _ _ _ _ _ (heap_alloc_last _ _))
        have HA2 := Lib.hid (HK.out.keepX (show Grow wr ((wr.alloc (.cells ZC 35)).setRow wr.heap.size (ccell c).toArray) from below_setRow (Grow.alloc _ _) (Nat.le_refl _) _))
        generalize ((wr.alloc (.cells ZC 35)).setRow wr.heap.size (ccell c).toArray) = W5 at *
        have x0 : W5.cell? ⟨wr.heap.size, 0, none⟩ = some (.int .i64 c.1) := (cell_at HX2.out 0).trans rfl
        obtain ⟨vb, hX5, hrow5, hlo5⟩ := HA2.out.ex
        obtain ⟨a5, c5, rfl⟩ := IRow.len hrow5
        rw [List.length_map] at hX5 hrow5 hlo5
        obtain ⟨n5, hn5⟩ : ∃ n5, n5 = (cs.take k).length := ⟨_, rfl⟩
        rw [← hn5] at hX5 hrow5 hlo5
        have HN5 := Lib.hid (show n5 = k by rw [hn5, List.length_take]; have := HNC.out; omega)
        have HX5 := Lib.hid hX5
        have HR5 := Lib.hid hrow5
        have HL5 := Lib.hid hlo5
        have k3 : W5.cell? ⟨X, 3, none⟩ = some (.slice a5 n5 c5) := cell_at hX5 3
        clear hX5 hrow5 hlo5 hn5
        have HLK := Lib.hid (show (((cs.take k).map (·.1)).map icell).length + 1 ≤ 1000000 by rw [List.length_map, List.length_map, List.length_take]; omega)
        have HXn := Lib.hid (show X ∉ ownL (.slice a5 n5 c5) from fun hm => by
          obtain ⟨C, h1⟩ := IRow.kind HR5.out (ownL_mem.1 hm)
          rw [HX5.out] at h1
          simp at h1)
        have HTn := Lib.hid (show wr.heap.size ∉ ownL (.slice a5 n5 c5) from fun hm => by
          obtain ⟨C, h1⟩ := IRow.kind HR5.out (ownL_mem.1 hm)
          rw [HX2.out] at h1
          simp at h1)
        have HXL5 := Lib.hid (Array.getElem?_eq_some_iff.1 HX5.out).1
        have HTL5 := Lib.hid (Array.getElem?_eq_some_iff.1 HX2.out).1
        have HXT := Lib.hid (show X ≠ wr.heap.size from fun e => by
          have h1 := HX5.out
          rw [e, HX2.out] at h1
          simp at h1)
        go_upto_region 11 with (first | (at_builtin; go_loud (refine wpList_append_row rfl _ _ 37 rfl 3 i0 (.int .i64 0) 1 8 Try.underlying37 HI0.out hz0 hz1 hz2 rfl (by omega) (.slice a5 n5 c5) (((cs.take k).map (fun c : Cp => c.1)).map icell) rfl (Row.kept HR5.out (Touch.alloc [] _ _) (by simp)) _ 1 (icell c.1) rfl rfl (new_cells _ _ _) (fun u hu => by rw [List.mem_singleton.1 hu]; rfl) HLK.out (by omega) ?_); intro v' wa happ htch; have hXa0 := Lib.hid (htch.block X (by simp; have := HXL5.out; omega) HXn.out); have hXa := hXa0.out.trans ((Below.heap_alloc W5 _ X HXL5.out).trans HX5.out); have k3' := cell_at hXa 3; have q3' := frozen_at hXa 3; simp only [List.getElem?_toArray, List.getElem?_cons_zero, List.getElem?_cons_succ] at k3'; obtain ⟨a6, c6, hv6⟩ := Row.len happ.1; obtain ⟨n6, hn6⟩ : ∃ n6, n6 = (((cs.take k).map (fun c : Cp => c.1)).map icell ++ [icell c.1]).length := ⟨_, rfl⟩; rw [← hn6] at hv6; clear hn6; subst hv6))
        have htX : Touch [X] wa (wa.setCell ⟨X, 3, none⟩ (.slice a6 n6 c6)) := Touch.setCell _ (by simp) _
        have HXlo := HA2.out.x
        have hga : Below W0.heap.size W5 wa := Below.trans (Below.mono (Grow.alloc W5 _) (Nat.le_trans HA2.out.grow.size (Nat.le_refl _))) (htch.below (by have := HA2.out.grow.size; simp; omega) (fun q hq => HL5.out q (ownL_mem.1 hq)))
        have HA3 := Lib.hid (show AInv W0 seq start count cs X m k (wa.setCell ⟨X, 3, none⟩ (.slice a6 n6 c6)) ∨ True from .inr trivial)
        have HX6 := Lib.hid (heap_set hXa 3 (.slice a6 n6 c6))
        have HR6 := Lib.hid (show IRow (wa.setCell ⟨X, 3, none⟩ (.slice a6 n6 c6)) (.slice a6 n6 c6) ((cs.take (k + 1)).map (·.1)) by
          have h1 : IRow wa (.slice a6 n6 c6) ((cs.take (k + 1)).map (·.1)) := by
            have := happ.1
            unfold IRow
            rw [List.take_add_one, HC.out, List.map_append, List.map_append]
            exact this
          exact Row.kept h1 htX (fun q hq hm => by
            obtain ⟨C, h2⟩ := IRow.kind h1 hq
            rw [List.mem_singleton.1 hm, hXa] at h2
            simp at h2))
        have HL6 := Lib.hid (app_lo happ HL5.out (by have := HA2.out.grow.size; simp; omega))
        have HM6 := Lib.hid (show MapIs (wa.setCell ⟨X, 3, none⟩ (.slice a6 n6 c6)) copyK m k (pr (cs.take k)) from
          (((HA2.out.map.kept (Touch.alloc [] W5 _) (by simp)).kept htch (fun hm => map_ne_cells HA2.out.map (IRow.kind HR5.out (ownL_mem.1 hm)) rfl)).kept htX (by simpa using fun e => map_ne_cells HA2.out.map ⟨_, HX5.out⟩ e.symm)))
        have HG6 := Lib.hid (show Grow W0 (wa.setCell ⟨X, 3, none⟩ (.slice a6 n6 c6)) from Below.trans HA2.out.grow (Below.trans hga (htX.below (Nat.le_trans HA2.out.grow.size hga.size) (by simpa using HXlo))))
        have HT6 := Lib.hid (show (wa.setCell ⟨X, 3, none⟩ (.slice a6 n6 c6)).heap[wr.heap.size]? = some (.cells (ccell c).toArray 35) from
          (htX.block _ (Nat.lt_of_lt_of_le HTL5.out (Nat.le_trans (by simp) htch.size)) (by simpa using fun e => HXT.out e.symm)).trans ((htch.block _ (by simp; have := HTL5.out; omega) HTn.out).trans ((Below.heap_alloc W5 _ _ HTL5.out).trans HX2.out)))
        generalize (.slice a6 n6 c6 : Value) = vb6 at *
        generalize wa.setCell ⟨X, 3, none⟩ vb6 = W6 at *
        clear htX hga hXa k3 k3' q3' x0 happ htch HA3 HXlo
        have k4 : W6.cell? ⟨X, 4, none⟩ = some (.map (some m)) := (cell_at HX6.out 4).trans rfl
        have x0 : W6.cell? ⟨wr.heap.size, 0, none⟩ = some (.int .i64 c.1) := (cell_at HT6.out 0).trans rfl
        have hk6 : k ≤ 100000 := by omega
        have HX6b := Lib.hid (show W6.heap[X]? = some (.cells #[.int .u32 (seq : Int), .int .i64 start, .int .i64 count, vb6, .map (some m)] 82) from HX6.out)
        go_upto_region 12 with (first | (refine wpList_load_row rfl 35 _ rfl wr.heap.size rfl 35 (ccell c).toArray (0, 0) _ HT6.out Try.underlying35 rfl HSC2.out ?_) | (at_mapUpdate; go_loud (refine wpList_mapStore rfl _ _ _ 80 rfl 35 Try.underlying80 m k (pr (cs.take k)) rfl HM6.out hk6 c.1 HCO.out.1 rfl c HCO.out.2 rfl ?_); intro w7 hm7 ht7))
        have HK2 := Lib.hid (show AInv W0 seq start count cs X m (k + 1) w7 from {
          ex := ⟨vb6, (ht7.block X (Array.getElem?_eq_some_iff.1 HX6b.out).1 (by simpa using map_ne_cells HM6.out ⟨_, HX6b.out⟩)).trans HX6b.out, Row.kept HR6.out ht7 (fun q hq => by simpa using map_ne_cells HM6.out (IRow.kind HR6.out hq)), HL6.out⟩
          map := by rw [take_keys HRI.out.1 HC.out] at hm7; exact hm7
          grow := Below.trans HG6.out (ht7.below HG6.out.size (by simpa using HML.out))
          x := HXl.out
          m := HML.out })
        clear hm7 ht7 k4 x0
        go_wp2_with fail
        go_roundw
        case rel => exact ⟨k + 1, by go_num, by omega, HK2⟩
        case measure => simp [intOf]; omega
      · obtain rfl : k = nc := by omega
        obtain ⟨vb, hX5, hrow5, hlo5⟩ := HK.out.ex
        have HMP5 := Lib.hid (show MapIs wr copyK m 600 (pr cs) by have := HK.out.map.mono hcl; rwa [HNC.out, List.take_length] at this)
        rw [HNC.out, List.take_length] at hrow5
        have HRW5 := Lib.hid hrow5
        have HH5 := Lib.hid (HH.out.grow HK.out.grow)
        have HCV := Lib.hid (show CVIs wr ⟨⟨seq, start, count, cs, cs⟩, vb, m⟩ from ⟨HMP5.out, HRW5.out, ⟨fun c hc => ⟨HCS.out.2 c hc, (HRI.out.2 c hc).1⟩, HRI.out.1, List.Sublist.refl _, by rw [← HNC.out]; exact hcl, HSQ.out, HST.out, HCT.out⟩⟩)
        have HX5 := Lib.hid (show wr.heap[X]? = some (.cells (tc5 ⟨⟨seq, start, count, cs, cs⟩, vb, m⟩).toArray 82) from hX5)
        have HGK := Lib.hid HK.out.grow
        have HLO := Lib.hid hlo5
        have HBS := Lib.hid (buildSlice_tr ⟨⟨seq, start, count, cs, cs⟩, vb, m⟩)
        have HC5 := Lib.hid (show (tc5 ⟨⟨seq, start, count, cs, cs⟩, vb, m⟩).length = 5 from rfl)
        have HO5 := Lib.hid (show ∀ u ∈ tc5 ⟨⟨seq, start, count, cs, cs⟩, vb, m⟩, u.oneCell' = true from fun u hu => by
          obtain ⟨a, c, hv⟩ := IRow.len HRW5.out
          unfold tc5 at hu
          simp only [hv, List.mem_cons, List.not_mem_nil, or_false] at hu
          rcases hu with rfl | rfl | rfl | rfl | rfl <;> rfl)
        generalize hc5 : tc5 ⟨⟨seq, start, count, cs, cs⟩, vb, m⟩ = c5 at *
        have HC5E := Lib.hid hc5
        clear hc5
        have HS1 := Lib.hid (show ∀ k ∈ B :: ownL va, k < w.heap.size from fun k hk => by
          rcases List.mem_cons.1 hk with rfl | hk
          · exact HW.out.lt
          · exact (HW.out.li.row.lt (ownL_mem.1 hk)).lt)
        have HS2 := Lib.hid (show ∀ k ∈ B :: ownL va, k < wr.heap.size from fun k hk => Nat.lt_of_lt_of_le (HS1.out k hk) (Nat.le_trans (by have := HLN.out; omega) HGK.out.size))
        have HXS := Lib.hid (show X ∉ B :: ownL va from fun hm => by have h1 := HS1.out X hm; have h2 := HXl.out; have h3 := HLN.out; omega)
        have HBA := Lib.hid (show ∀ q, va.ownBlock = some q → q ≠ B from fun q hq e => by
          obtain ⟨C, h1⟩ := HH5.out.li.row.lt hq
          rw [e, HH5.out.li.obj] at h1
          simp at h1)
        clear hX5 hrow5 hlo5
        go_upto_region 13 with (fail)
        refine add_reg13 B X s.last g s.added va (B :: ownL va) (xs.map tc5) c5 wr HX5 HXS HC5 HO5 HBS (Lib.hid HH5.out.li.obj) (Lib.hid HH5.out.li.row) HS2 (Lib.hid (List.mem_cons_self ..)) (Lib.hid (fun q hq => List.mem_cons_of_mem _ (ownL_mem.2 hq))) HBA (Lib.hid (by rw [List.length_map, HH5.out.rowlen]; omega)) _ _ _ _ _ _ _ _ _ _ _ _ _ _ _ _ _ _ _ _ _ _ _ _ _ _ _ _ _ _ _ _ _ _ _ _ _ _ _ _ _ _ _ _ _ _ _ _ _ _ _ _ _ _ _ _ _ _ _ _ _ _ _ _ _ _ _ _ _ _ _ _ _ _ _ _ _ _ _ _ _ _ _ _ _ (Lib.hid ?hk13)
        intro u57 u58 u59 u60 u61 u62 u63 u64 u65 u66 w8 hdone ht8
        obtain ⟨v8, hob8, hrow8, hown8⟩ := hdone
        have HP8 := Lib.hid (LSt.push HW.out HH5.out hlen ht8 hob8 (by rw [HC5E.out]; exact hrow8) HCV.out (Nat.le_trans (by have := HLN.out; omega) HML.out))
        have HT8 := Lib.hid (show ∀ q ∈ T ++ ownL v8 ++ [m] ++ ownL vb, q ∈ T ∨ W0.heap.size ≤ q from fun q hq => by
          simp only [List.mem_append, List.mem_singleton, ownL_mem] at hq
          rcases hq with ((hq | hq) | hq) | hq
          · exact .inl hq
          · rcases hown8 with h1 | ⟨q', h1, h2⟩
            · exact .inl (HW.out.a q (h1 ▸ hq))
            · rw [hq] at h1; cases h1; exact .inr (Nat.le_trans HGK.out.size h2)
          · exact .inr (hq ▸ HML.out)
          · exact .inr (HLO.out q hq))
        have HL8 := Lib.hid (show ∀ q ∈ T ++ ownL v8 ++ [m] ++ ownL vb, q < w8.heap.size from fun q hq => by
          simp only [List.mem_append, List.mem_singleton, ownL_mem] at hq
          have h1 := HGK.out.size
          have h2 := ht8.size
          have h3 := HLN.out
          rcases hq with ((hq | hq) | hq) | hq
          · have := HTL.out q hq; omega
          · exact (hrow8.lt hq).lt
          · have := HMP5.out.lt; omega
          · have := Row.lt HRW5.out hq; omega)
        have hy8 : w8.heap[w.heap.size]? = some (.cells #[.int .u32 (seq : Int), .slice ac k cc, .slice ar nr cr] 39) := (ht8.block _ (by have h1 := HGK.out.size; have h3 := HLN.out; omega) (fun hm => by have := HS1.out _ hm; omega)).trans (HYO.out _ HGK.out)
        have HY8 := Lib.hid (show ∀ w', Touch (T ++ ownL v8 ++ [m] ++ ownL vb) w8 w' → w'.heap[w.heap.size]? = some (.cells #[.int .u32 (seq : Int), .slice ac k cc, .slice ar nr cr] 39) from fun w' ht => (ht.block _ (Array.getElem?_eq_some_iff.1 hy8).1 (fun hm => by
          rcases HT8.out _ hm with h1 | h1
          · have := HTL.out _ h1; omega
          · have := HLN.out; omega)).trans hy8)
        have HR8 := Lib.hid (show ISee w8 (.slice ar nr cr) rs from (HRS.out.grow HGK.out).touch ht8 (fun q hq hz hm => (HVR.out q hq hz).1 (by
          rcases List.mem_cons.1 hm with rfl | hm
          · exact HW.out.b
          · exact HW.out.a q (ownL_mem.1 hm))))
        have HRN := Lib.hid (show ∀ q, (Value.slice ar nr cr).ownBlock = some q → rs ≠ [] → q ∉ T ++ ownL v8 ++ [m] ++ ownL vb from fun q hq hz hm => by
          rcases HT8.out _ hm with h1 | h1
          · exact (HVR.out q hq hz).1 h1
          · have h2 := (HVR.out q hq hz).2; have := HLN.out; omega)
        have HTT := Lib.hid (show Touch T w w8 from ((Touch.refl T w).trans (Touch.of_below (S := []) (HW0.out.trans HGK.out)) (by simp)).trans ht8 (fun q hq => .inl (by
          rcases List.mem_cons.1 hq with rfl | hq
          · exact HW.out.b
          · exact HW.out.a q (ownL_mem.1 hq))))
        generalize T ++ ownL v8 ++ [m] ++ ownL vb = T8 at *
        have y2 : w8.cell? ⟨w.heap.size, 2, none⟩ = some (.slice ar nr cr) := cell_at hy8 2
        clear hob8 hrow8 hown8 hy8 ht8
        go_wp2_with fail
        clear y2
        go_loopw [70] (fun t70 wr => ∃ k : Nat, t70 = .int .i64 (k : Int) ∧ k ≤ nr ∧ Hid (∃ va' xs', LSt wr B g ((rs.take k).foldl (fun (s : CS) b => s.forget b) { s with all := s.all ++ [⟨seq, start, count, cs, cs⟩] }) T8 va' xs' ∧ Touch T8 w8 wr)) (fun t70 _ => nr - (intOf t70).toNat)
        case atStart => exact ⟨0, by go_num, by omega, Lib.hid ⟨_, _, HP8.out, Touch.refl _ _⟩⟩
        case round =>
          obtain ⟨j, rfl, hjn, HJ⟩ := hrel
          obtain ⟨va', xs', hL, hT⟩ := HJ.out
          have HLJ := Lib.hid hL
          have HTJ := Lib.hid hT
          clear hL hT
          by_cases hj : j < nr
          · obtain ⟨r, hr⟩ : ∃ r, rs[j]? = some r := ⟨rs[j]'(by rw [← HNR.out]; exact hj), by simp⟩
            obtain ⟨gr, or, rfl, _, y0, hro⟩ := (HR8.out.touch HTJ.out HRN.out).at_ hr
            have HRJ := Lib.hid hr
            have HRO := Lib.hid hro
            have b0 : (0 : Int) ≤ (j : Int) := by omega
            have b1 : (j : Int) < (nr : Int) := by omega
            clear hr hro
            go_wp2_with fail
            refine (forget_ok HLJ.out r HRO.out).mono ?_
            intro e w9 hp
            obtain ⟨rfl, h9, ht9⟩ := hp
            have HJ2 := Lib.hid (show ∃ va' xs', LSt w9 B g ((rs.take (j + 1)).foldl (fun (s : CS) b => s.forget b) { s with all := s.all ++ [⟨seq, start, count, cs, cs⟩] }) T8 va' xs' ∧ Touch T8 w8 w9 from ⟨_, _, by rw [List.take_add_one, HRJ.out, List.foldl_append]; exact h9, HTJ.out.trans ht9 (fun i hi => .inl hi)⟩)
            clear h9 ht9
            go_wp2_with fail
            go_roundw
            case rel => exact ⟨j + 1, by go_num, by omega, HJ2⟩
            case measure => simp [intOf]; omega
          · obtain rfl : j = nr := by omega
            have HL9 := Lib.hid (show LSt wr B g (rs.foldl (fun (s : CS) b => s.forget b) { s with all := s.all ++ [⟨seq, start, count, cs, cs⟩] }) T8 va' xs' by have := HLJ.out; rwa [HNR.out, List.take_length] at this)
            have hY := HY8.out wr HTJ.out
            have hYl := (Array.getElem?_eq_some_iff.1 hY).1
            have HTJ2 := Lib.hid (show Touch T8 w8 wr from HTJ.out)
            have HYB := Lib.hid (show w.heap.size ≠ B from fun e => by have := HW.out.lt; omega)
            go_upto_region 19 with (fail)
            refine add_reg19 B w.heap.size seq _ g _ va' wr (Lib.hid HL9.out.li.obj) HYB (Lib.hid ⟨hYl, cell_at hY 0⟩) _ _ _ _ _ _ _ _ _ _ _ _ _ _ _ _ _ _ _ _ _ _ _ _ _ _ _ _ _ _ _ _ _ _ _ _ _ _ _ _ _ _ _ _ _ _ _ _ _ _ _ _ _ _ _ _ _ _ _ _ _ _ _ _ _ _ _ _ _ _ _ _ _ _ _ _ _ _ _ _ _ _ _ _ _ (Lib.hid ?hk19)
            intro u78 u79 u80 u81 u82 u83 u84 u85 w10 hob10 ht10
            have HF := Lib.hid (HL9.out.flag ht10 hob10)
            have HTF := Lib.hid (show Touch T8 w8 w10 from HTJ2.out.trans ht10 (fun i hi => .inl (by rw [List.mem_singleton.1 hi]; exact HL9.out.b)))
            clear hob10 ht10 hY hYl
            go_wp2_with fail
            go_ret
            refine ⟨rfl, ⟨T8, va', xs', HF.out, fun q hq => (HT8.out q hq).imp id (fun h => by have := HLN.out; omega), fun q hq => Nat.lt_of_lt_of_le (HL8.out q hq) HTF.out.size⟩, HTT.out.trans HTF.out (fun q hq => (HT8.out q hq).imp id (fun h => by have := HLN.out; omega))⟩
#print axioms add_ok
end Go.Proofs.Ytokehhegomiciaa
