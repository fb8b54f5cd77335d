/- added: the walk. -/
import Derived.Test.YtokehhegomiciaaH19
set_option linter.unusedVariables false
set_option linter.unusedSimpArgs false
namespace Go.Proofs.Ytokehhegomiciaa
open Go.RowKit Go.Maps

def ARow (w : World) (v : Value) (l : List AV) : Prop := Row w 43 6 v (l.map acell)
theorem info43 : (Try.prog.info? 43).map (fun i => (i.zero, i.size, i.bytes)) = some (some (.agg #[.bool false, .int .u32 0, .slice none 0 0, .slice none 0 0, .int .i64 0, .int .i64 0]), 6, 80) := by kernel_rfl
theorem size43 : (Try.prog.info? 43).map (·.size) = some 6 := by kernel_rfl
theorem buildSlice_act (x : AV) (w : World) : (Instr.buildSlice 24 1 #[(0, .agg (acell x).toArray)]).run Try.prog w = .ok (.slice (some ⟨w.heap.size, 0, none⟩) 1 1) (w.alloc (.cells (acell x).toArray 43)) := by kernel_rfl
theorem results_tmp3 {fn : Func} {t u v : Tmp} (h : fn.results = #[.tmp t, .tmp u, .tmp v]) (tmps : Array Value) (P : Program) (w : World) :
    (results fn tmps).run P w = .ok (.tuple #[tmps.getD t undef, tmps.getD u undef, tmps.getD v undef]) w := by
  simp [results, h]
structure AdInv (g : G4) (l : List AV) (w : World) (B k : Nat) (T : List Nat) (vt : Value) (wr : World) : Prop where
  ls : ∃ va xs, LSt wr B g (runA g (l.take k)).1 T va xs
  row : ARow wr vt (runA g (l.take k)).2
  lo : ∀ q ∈ T, w.heap.size ≤ q ∧ q < wr.heap.size
  vt : ∀ q, vt.ownBlock = some q → w.heap.size ≤ q ∧ q ∉ T
  grow : Grow w wr
def AddedPost (g : G4) (l : List AV) (w : World) (e : Ending) (w' : World) : Prop :=
  (¬ g.May ∧ e = .returned (.tuple #[.pointer none, .slice none 0 0, .bool false]) ∧ Grow w w') ∨
  (g.May ∧ ∃ B T vt, e = .returned (.tuple #[.pointer (some ⟨B, 0, none⟩), vt, .bool true]) ∧ AdInv g l w B l.length T vt w')
set_option maxRecDepth 100000 in
set_option maxHeartbeats 8000000 in
theorem added_ok {g : G4} {w : World} {v : Value} {l : List AV} (h : ASee w v l) (hs : Small l) : Calls Try.prog 9 #[.agg #[.int .i64 g.gr, .int .i64 g.sz, .int .i64 g.ni, .int .i64 g.jr], v] w (AddedPost g l w) := by
  by_cases hM : g.May
  · have HA := Lib.hid h
    obtain ⟨a, cap, rfl⟩ := h.len
    obtain ⟨n, hn⟩ : ∃ n, n = l.length := ⟨_, rfl⟩
    have hn60 : n ≤ 60 := by rw [hn]; exact hs.1
    have HSM := Lib.hid hs.2
    rw [← hn] at HA ⊢
    have HN := Lib.hid hn
    have HMay := Lib.hid hM
    have HNEW := Lib.hid (new_ok hM)
    obtain ⟨i0, hi0, hz0, hz1, hz2⟩ := info_parts info43
    have HI0 := Lib.hid hi0
    clear h hs hn hM hi0
    go_enter Try.func9, Try.ntmps9
    go_wp2_with fail
    refine (HNEW.out _).mono ?_
    intro e w1 hp
    obtain ⟨B, rfl, hl1, hB, hg1⟩ := hp
    have HAD := Lib.hid (show AdInv g l w B 0 [B] (.slice none 0 0) w1 from { ls := ⟨_, _, hl1⟩, row := rowNil _ _ _, lo := fun q hq => by rw [List.mem_singleton.1 hq]; exact ⟨Nat.le_trans (by simp) hB, hl1.lt⟩, vt := fun q hq => (by cases hq), grow := (Grow.alloc _ _).trans hg1 })
    clear hl1 hB hg1
    go_wp2_with fail
    go_loopw [9, 10] (fun t9 t10 wr => ∃ (k : Nat) (T : List Nat), t10 = .int .i64 (k : Int) ∧ k ≤ n ∧ (∃ a9 n9 c9, t9 = .slice a9 n9 c9) ∧ Hid (AdInv g l w B k T t9 wr)) (fun _ t10 _ => n - (intOf t10).toNat)
    case atStart => exact ⟨0, [B], by go_num, by omega, ⟨_, _, _, rfl⟩, HAD⟩
    case round =>
      obtain ⟨k, T, rfl, hkn, ⟨a9, n9, c9, rfl⟩, HK⟩ := hrel
      by_cases hk : k < n
      · obtain ⟨x, hx⟩ : ∃ x, l[k]? = some x := ⟨l[k]'(by rw [← HN.out]; exact hk), by simp⟩
        have hA := HA.out.grow HK.out.grow
        obtain ⟨ga, oa, rfl, hga, hr, hav⟩ := hA.at_ hx
        obtain ⟨ac, cc, hvc⟩ := hav.cs.len
        obtain ⟨ar, cr, hvr⟩ := hav.rs.len
        have HX := Lib.hid hx
        have HAV := Lib.hid hav
        have HR := Lib.hid hr
        have HGA := Lib.hid hga
        have hsm := HSM.out x (List.mem_of_getElem? hx)
        have hinv := runA_inv g (l.take k)
        have hlen2 : (runA g (l.take k)).2.length ≤ 60 := Nat.le_trans hinv.2.length_le (by rw [List.length_take]; omega)
        have HLEN := Lib.hid (show (runA g (l.take k)).1.all.length + 1 ≤ 1000 by omega)
        have HLEN2 := Lib.hid hlen2
        obtain ⟨b, hb⟩ : ∃ b : Bool, (b = true ↔ mayP g (runA g (l.take k)).1 x.seq x.cs x.rs x.start x.count) := by
          by_cases hc : mayP g (runA g (l.take k)).1 x.seq x.cs x.rs x.start x.count
          · exact ⟨true, ⟨fun _ => hc, fun _ => rfl⟩⟩
          · exact ⟨false, ⟨fun h => (by cases h), fun h => absurd h hc⟩⟩
        have HB := Lib.hid hb
        obtain ⟨va, xs, hls⟩ := HK.out.ls
        have HQ1 := Lib.hid (show wr.cell? ⟨ga, oa + k * 6 + 1, none⟩ = some (.int .u32 (x.seq : Int)) from hr 1 _ rfl)
        have HQ2 := Lib.hid (show wr.cell? ⟨ga, oa + k * 6 + 1 + 1, none⟩ = some (.slice ac x.cs.length cc) from (hr 2 _ rfl).trans (by rw [hvc]))
        have HQ3 := Lib.hid (show wr.cell? ⟨ga, oa + k * 6 + 1 + 2, none⟩ = some (.slice ar x.rs.length cr) from (hr 3 _ rfl).trans (by rw [hvr]))
        have HQ4 := Lib.hid (show wr.cell? ⟨ga, oa + k * 6 + 4, none⟩ = some (.int .i64 x.start) from hr 4 _ rfl)
        have HQ5 := Lib.hid (show wr.cell? ⟨ga, oa + k * 6 + 5, none⟩ = some (.int .i64 x.count) from hr 5 _ rfl)
        have HADD := Lib.hid (show ∀ w', Grow wr w' → Calls Try.prog 12 #[.pointer (some ⟨B, 0, none⟩), .agg #[.int .u32 (x.seq : Int), .slice ac x.cs.length cc, .slice ar x.rs.length cr], .int .i64 x.start, .int .i64 x.count] w' (AddPost B g (addS b (runA g (l.take k)).1 x.seq x.cs x.rs x.start x.count) (addE b) T w') from fun w' hg => by
          refine add_ok (hls.grow hg) (fun q hq => Nat.lt_of_lt_of_le (HK.out.lo q hq).2 hg.size) HMay.out (by rw [← hvc]; exact (hav.cs.grow hg)) (by rw [← hvr]; exact (hav.rs.grow hg)) hsm.1 hsm.2 hav.seq hav.start hav.count (fun q hq hz => ?_) HLEN.out hb
          have hin := (HA.out.2 x (List.mem_of_getElem? hx)).rs.lt hz (k := q) (by rw [hvr]; exact hq)
          refine ⟨fun hm => ?_, Nat.lt_of_lt_of_le hin (Nat.le_trans HK.out.grow.size hg.size)⟩
          have := (HK.out.lo q hm).1
          omega)
        have HO6 := Lib.hid (show ∀ u ∈ acell x, u.oneCell' = true from fun u hu => by
          unfold acell at hu
          simp only [hvc, hvr, List.mem_cons, List.not_mem_nil, or_false] at hu
          rcases hu with rfl | rfl | rfl | rfl | rfl | rfl <;> rfl)
        have HBS := Lib.hid (buildSlice_act x)
        generalize x.cs.length = nc at *
        generalize x.rs.length = nr at *
        clear hx hA hr hav hvc hvr hsm hinv hlen2 hb hls hga
        go_upto_region 8 with (fail)
        refine added_reg8 B ga oa n cap k x.seq nc cc nr cr ac ar x.start x.count g (runA g (l.take k)).1 T va xs x.cs x.rs b wr (Lib.hid hk) HGA HQ1 HQ2 HQ3 HQ4 HQ5 HADD _ _ _ _ _ _ _ _ _ _ _ _ _ _ _ _ _ _ _ _ _ _ _ _ _ _ _ _ _ _ _ _ _ _ _ _ _ _ _ _ _ _ _ _ _ _ _ _ _ _ _ _ _ (Lib.hid ?hk8)
        intro u28 u29 u30 u31 u32 u33 u34 u35 u36 u37 u38 u39 u40 u41 u42 u43 u44 w2 T' va' xs' hl2 hT2 hTl2 ht2
        have HL2 := Lib.hid hl2
        have HT2 := Lib.hid hT2
        have HTL2 := Lib.hid hTl2
        have hg2 : Grow w w2 := Below.trans HK.out.grow (ht2.below HK.out.grow.size (fun q hq => (HK.out.lo q hq).1))
        have HG2 := Lib.hid hg2
        have hrow2 : ARow w2 (.slice a9 n9 c9) (runA g (l.take k)).2 := Row.kept HK.out.row ht2 (fun q hq => (HK.out.vt q hq).2)
        have HROW2 := Lib.hid hrow2
        have HVT2 := Lib.hid (show ∀ q, (Value.slice a9 n9 c9).ownBlock = some q → w.heap.size ≤ q ∧ q ∉ T' from fun q hq => ⟨(HK.out.vt q hq).1, fun hm => by
          rcases HT2.out q hm with h1 | h1
          · exact (HK.out.vt q hq).2 h1
          · have := Row.lt HK.out.row hq; omega⟩)
        have HLO2 := Lib.hid (show ∀ q ∈ T', w.heap.size ≤ q ∧ q < w2.heap.size from fun q hq => ⟨by
          rcases HT2.out q hq with h1 | h1
          · exact (HK.out.lo q h1).1
          · exact Nat.le_trans HK.out.grow.size h1, HTL2.out q hq⟩)
        clear hl2 hT2 hTl2 ht2 hg2 hrow2
        cases b with
        | false =>
          have HK2 := Lib.hid (show AdInv g l w B (k + 1) T' (.slice a9 n9 c9) w2 by
            have hst : runA g (l.take (k + 1)) = runA g (l.take k) := by
              rw [runA_take HX.out]
              unfold stepA
              rw [if_neg (fun hc => by have := HB.out.2 hc; cases this)]
            exact { ls := ⟨_, _, by rw [hst]; exact HL2.out⟩, row := by rw [hst]; exact HROW2.out, lo := HLO2.out, vt := HVT2.out, grow := HG2.out })
          go_wp2_with fail
          go_roundw
          case rel => exact ⟨k + 1, T', by go_num, by omega, ⟨_, _, _, rfl⟩, HK2⟩
          case measure => simp [intOf]; omega
        | true =>
          have HST := Lib.hid (show runA g (l.take (k + 1)) = (addC (runA g (l.take k)).1 x.seq x.cs x.rs x.start x.count, (runA g (l.take k)).2 ++ [x]) by
            rw [runA_take HX.out]
            unfold stepA
            rw [if_pos (HB.out.1 rfl)])
          obtain ⟨ga', oa', hv', hga2, hr2, _⟩ := (HA.out.grow HG2.out).at_ HX.out
          cases hv'
          have HR2 := Lib.hid hr2
          have b0 : (0 : Int) ≤ (k : Int) := by omega
          have b1 : (k : Int) < (n : Int) := by omega
          clear hr2 hga2
          go_wp2_with (first | (refine wpList_load_mid rfl 43 _ rfl ga (oa + k * 6) rfl (acell x) _ HR2.out Try.underlying43 rfl size43 ?_) | (refine wpList_buildSlice rfl 24 1 _ rfl (by simp only [List.map_toArray, List.map_cons, List.map_nil]; exact HBS.out _) ?_) | (at_builtin; go_loud (refine wpList_append_row rfl _ _ 24 rfl 43 i0 (.agg #[.bool false, .int .u32 0, .slice none 0 0, .slice none 0 0, .int .i64 0, .int .i64 0]) 6 80 Try.underlying24 HI0.out hz0 hz1 hz2 rfl (by omega) (.slice a9 n9 c9) ((runA g (l.take k)).2.map acell) rfl (Row.kept HROW2.out (Touch.alloc [] _ _) (by simp)) _ 1 (acell x) rfl rfl (new_cells _ _ _) HO6.out (by rw [List.length_map]; have := HLEN2.out; omega) (by omega) ?_); intro v' wa happ htch))
          obtain ⟨a10, c10, hv10⟩ := Row.len happ.1
          have HK2 := Lib.hid (show AdInv g l w B (k + 1) T' v' wa from {
            ls := ⟨_, _, by rw [HST.out]; exact ((HL2.out.grow (Grow.alloc _ _)).kept htch (fun q hq hm => (HVT2.out q (ownL_mem.1 hm)).2 hq))⟩
            row := by rw [HST.out]; unfold ARow; rw [List.map_append]; exact happ.1
            lo := fun q hq => ⟨(HLO2.out q hq).1, Nat.lt_of_lt_of_le (HLO2.out q hq).2 (Nat.le_trans (by simp) htch.size)⟩
            vt := fun q hq => by
              rcases happ.2 with h1 | ⟨g', h1, h2⟩
              · exact HVT2.out q (h1 ▸ hq)
              · rw [hq] at h1
                cases h1
                have h3 := HG2.out.size
                simp at h2
                exact ⟨by omega, fun hm => by have := (HLO2.out _ hm).2; omega⟩
            grow := Below.trans (HG2.out.trans (Grow.alloc _ _)) (htch.below (Nat.le_trans HG2.out.size (by simp)) (fun q hq => (HVT2.out q (ownL_mem.1 hq)).1)) })
          clear happ htch
          go_roundw
          case rel => exact ⟨k + 1, T', by go_num, by omega, ⟨_, _, _, hv10⟩, HK2⟩
          case measure => simp [intOf]; omega
      · obtain rfl : k = n := by omega
        have HF := Lib.hid (show AdInv g l w B l.length T (.slice a9 n9 c9) wr by rw [← HN.out]; exact HK.out)
        go_wp2_with fail
        refine bodyPost_ret (results_tmp3 rfl _ _ _) rfl (.inr ⟨HMay.out, B, T, _, rfl, HF.out⟩)
  · have HNEW := Lib.hid (new_no hM)
    have HNM := Lib.hid hM
    clear h hs hM
    go_enter Try.func9, Try.ntmps9
    go_wp2_with fail
    refine (HNEW.out _).mono ?_
    intro e w1 hp
    obtain ⟨rfl, hg1⟩ := hp
    have HG1 := Lib.hid ((Grow.alloc _ _).trans hg1)
    clear hg1
    go_wp2_with fail
    exact bodyPost_ret (results_tmp3 rfl _ _ _) rfl (.inl ⟨HNM.out, rfl, HG1.out⟩)
#print axioms added_ok
end Go.Proofs.Ytokehhegomiciaa
