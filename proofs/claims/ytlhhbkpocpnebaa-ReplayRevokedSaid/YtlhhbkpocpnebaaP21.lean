/- The law ReplayRevoked: the walk. -/
import Derived.Test.YtlhhbkpocpnebaaP21b
import Derived.Test.YtlhhbkpocpnebaaP21c
import Derived.Test.YtlhhbkpocpnebaaP17
set_option linter.unusedVariables false
set_option linter.unusedSimpArgs false
namespace Go.Proofs.Ytlhhbkpocpnebaa
open Go.RowKit Go.Maps

theorem outL_get {f : PM} (ho : Own f) {zs : List Int} (hr : Rising (HasM f) zs) {k : Nat} {z : Int} (h : zs[k]? = some z) : ∃ c, (outL f zs)[k]? = some c ∧ c.1 = z ∧ f z = some c := by
  obtain ⟨c, hc⟩ := Option.isSome_iff_exists.1 ((hr.mem z).1 (List.mem_of_getElem? h))
  exact ⟨c, by unfold outL; rw [List.getElem?_map, h]; simp [hc], (ho z c hc).1, hc⟩
/-- a round's world -/
structure RSt (w4 : World) (PC : Nat) (c : Cp) (wr : World) : Prop where
  grow : Grow w4 wr
  obj : wr.heap[PC]? = some (.cells (ccell c).toArray 40)
theorem RSt.later {w4 : World} {PC : Nat} {c : Cp} {wr w' : World} (h : RSt w4 PC c wr) (hg : Grow wr w') : RSt w4 PC c w' := ⟨Grow.trans h.grow hg, (hg.block _ (Array.getElem?_eq_some_iff.1 h.obj).1).trans h.obj⟩
theorem RSt.pc {w4 : World} {PC : Nat} {c : Cp} {wr : World} (h : RSt w4 PC c wr) : PC < wr.heap.size ∧ wr.cell? ⟨PC, 0, none⟩ = some (.int .i64 c.1) := ⟨(Array.getElem?_eq_some_iff.1 h.obj).1, cell_at h.obj 0⟩
theorem RSt.data {w4 : World} {PC : Nat} {c : Cp} {wr : World} (h : RSt w4 PC c wr) : PC < wr.heap.size ∧ wr.rangeAt PC 1 (bc c.2) := ⟨(Array.getElem?_eq_some_iff.1 h.obj).1, fun j u hj => (cell_at h.obj (1 + j)).trans (by rw [List.getElem?_toArray]; unfold ccell; rw [show 1 + j = j + 1 by omega, List.getElem?_cons_succ]; exact hj)⟩
theorem cell_later {w4 wr : World} {a : Addr} {u : Value} (h : w4.cell? a = some u) (hg : Grow w4 wr) : a.block < wr.heap.size ∧ wr.cell? a = some u := by
  have hl := World.block_lt_of_cell? _ _ h
  exact ⟨Nat.lt_of_lt_of_le hl hg.size, (hg.cell hl).trans h⟩
def FoundIs (zs : List Int) (b : Int) (m : Nat) (fd : Int) : Prop := (fd = -1 ∧ b ∉ zs.take m) ∨ ∃ q : Nat, fd = (q : Int) ∧ zs[q]? = some b
theorem FoundIs.yes {zs : List Int} {b : Int} {m : Nat} (h : zs[m]? = some b) : FoundIs zs b (m + 1) (m : Int) := .inr ⟨m, rfl, h⟩
theorem FoundIs.no {zs : List Int} {b z fd : Int} {m : Nat} (h : FoundIs zs b m fd) (hz : zs[m]? = some z) (hn : ¬ z = b) : FoundIs zs b (m + 1) fd := by
  rcases h with ⟨h1, h2⟩ | h
  · refine .inl ⟨h1, fun hm => ?_⟩
    rw [List.take_add_one, hz, List.mem_append] at hm
    rcases hm with hm | hm
    · exact h2 hm
    · simp at hm; exact hn hm.symm
  · exact .inr h
theorem FoundIs.none_ {zs : List Int} {b fd : Int} (h : FoundIs zs b zs.length fd) (hn : b ∉ zs) : fd = -1 := by
  rcases h with ⟨h1, _⟩ | ⟨q, _, h2⟩
  · exact h1
  · exact absurd (List.mem_of_getElem? h2) hn
theorem FoundIs.some_ {zs : List Int} {b fd : Int} (h : FoundIs zs b zs.length fd) (hn : b ∈ zs) : ∃ q : Nat, fd = (q : Int) ∧ zs[q]? = some b := by
  rcases h with ⟨_, h2⟩ | h
  · rw [List.take_length] at h2; exact absurd hn h2
  · exact h
theorem any_drop_map {xs : List TV} {L : List PT} (h : xs.map (·.t) = L) (k : Nat) (b : Int) : ((xs.drop k).any fun x => nmB x.t b) = ((L.drop k).any fun u => nmB u b) := by
  rw [← h, ← List.map_drop, List.any_map]; rfl
theorem info55e : (Try.prog.info? (Try.prog.elem 25)).map (·.size) = some 3 := by kernel_rfl
theorem info40e : (Try.prog.info? (Try.prog.elem 33)).map (·.size) = some 257 := by kernel_rfl
set_option maxRecDepth 100000 in
set_option maxHeartbeats 32000000 in
theorem revoked_walk {w : World} {v : Value} {l : List TSh} (h : TShIn w v l) (hl : l.length ≤ 9223372036854775807) : Calls Try.prog 5 #[v] w fun e w' => e = .returned (.bool true) ∧ Below w.heap.size w w' := by
  have HT := Lib.hid h
  have HL := Lib.hid hl
  obtain ⟨a, cap, hv, _⟩ := h
  obtain ⟨n0, hn⟩ : ∃ n, n = l.length := ⟨_, rfl⟩
  rw [← hn] at hv
  subst hv
  clear hl hn
  go_enter Try.func5, Try.ntmps5
  go_wp2_with fail
  refine (awake_ok w).mono ?_
  intro e w1 hpost
  obtain ⟨he, hg1⟩ := hpost
  subst he
  have HT1 := Lib.hid (HT.out.grow hg1)
  have HG1 := Lib.hid hg1
  clear hg1
  go_wp2_with fail
  refine (many19_ok HT1.out HL.out).mono ?_
  intro e w2 hpost
  obtain ⟨b, he, hg, hb⟩ := hpost
  subst he
  have HT2 := Lib.hid (HT1.out.grow hg)
  have HG2 := Lib.hid (Grow.trans HG1.out hg)
  cases b with
  | true =>
    clear hg hb
    go_wp2_with fail
    go_ret
    exact ⟨rfl, HG2.out⟩
  | false =>
    have HLN := Lib.hid (hb rfl).1
    have HSZ := Lib.hid (hb rfl).2
    clear hg hb HT HT1 HG1
    go_wp2_with fail
    refine (short_ok HT2.out HLN.out (Nat.le_trans HSZ.out (by omega))).mono ?_
    intro e w3 hpost
    obtain ⟨v3, xs, he, hs⟩ := hpost
    subst he
    have HG3 := Lib.hid (Grow.trans HG2.out hs.grow)
    have HTR := Lib.hid hs.row
    obtain ⟨L, hLL⟩ : ∃ L, L = shortP l := ⟨_, rfl⟩
    have HTS := Lib.hid (show xs.map (·.t) = L by rw [hs.ts, hLL])
    have HCN := Lib.hid (show copyN L ≤ 1000 by rw [hLL]; exact Nat.le_trans (copyN_short l) HSZ.out)
    obtain ⟨a3, c3, hv3⟩ := hs.row.len
    obtain ⟨n, hn⟩ : ∃ n, n = xs.length := ⟨_, rfl⟩
    have HN := Lib.hid hn
    have HNL := Lib.hid (show n = L.length by rw [hn, hs.len, hLL])
    have hnb : n ≤ 60 := by rw [hn, hs.len, shortP_length]; exact HLN.out
    rw [← hn] at hv3
    subst hv3
    have HOV := Lib.hid (overlay_ok hs.row (by rw [← hn]; omega) (by rw [HTS.out]; exact Nat.le_trans HCN.out (by omega)))
    rw [HTS.out] at HOV
    have HOK := Lib.hid (show ∀ t ∈ L, t.ok from fun t ht => by rw [← HTS.out] at ht; obtain ⟨x, hx, rfl⟩ := List.mem_map.1 ht; exact (HTR.out.at_ x hx).ok)
    have HOW := Lib.hid (own_ov L HOK.out)
    clear hs hn hLL HT2 HG2
    go_wp2_with fail
    refine HOV.out.mono ?_
    intro e w4 hpost
    obtain ⟨v4, zs, he, hr, hc, hg, _⟩ := hpost
    subst he
    have HR := Lib.hid hr
    have HC := Lib.hid hc
    have HG4 := Lib.hid (Grow.trans HG3.out hg)
    have HT4 := Lib.hid (HTR.out.grow hg)
    obtain ⟨a4, c4, hv4⟩ := CRow.len hc
    obtain ⟨N4, hN4⟩ : ∃ N4, N4 = (outL (ov L) zs).length := ⟨_, rfl⟩
    rw [← hN4] at hv4
    subst hv4
    have HN4 := Lib.hid (show N4 = zs.length by rw [hN4]; unfold outL; rw [List.length_map])
    have HZL := Lib.hid (show zs.length ≤ 1000 from Nat.le_trans (nodup_sub zs (allB L) hr.nodup (fun z hz => Classical.byContradiction fun hn => by have h1 := (hr.mem z).1 hz; unfold HasM at h1; rw [ov_copied L z hn] at h1; cases h1)) (by rw [allB_length]; exact HCN.out))
    have hN4b : N4 ≤ 1000 := by rw [HN4.out]; exact HZL.out
    clear hr hc hg hN4 HOV HG3 HTR
    go_wp2_with fail
    go_loopw [5] (fun t5 wr => ∃ m : Nat, t5 = .int .i64 (m : Int) ∧ m ≤ N4 ∧ Hid (Grow w4 wr)) (fun t5 _ => N4 - (intOf t5).toNat)
    case atStart => exact ⟨0, by go_num, by omega, Lib.hid (Grow.refl _)⟩
    case round =>
      obtain ⟨m, rfl, hm, HW⟩ := hrel
      by_cases hlt : m < N4
      · cases m with
        | zero =>
          go_upto_region 10 with (fail)
          go_quiet (fail)
          go_wp2
          go_roundw
          case rel => exact ⟨1, by go_num, by omega, Lib.hid (Grow.trans HW.out (grow_drewN wr _))⟩
          case measure => simp [intOf]; omega
        | succ m =>
          obtain ⟨z1, hz1⟩ : ∃ z, zs[m]? = some z := ⟨zs[m]'(by rw [← HN4.out]; omega), by simp⟩
          obtain ⟨z2, hz2⟩ : ∃ z, zs[m + 1]? = some z := ⟨zs[m + 1]'(by rw [← HN4.out]; omega), by simp⟩
          obtain ⟨d1, hd1, he1, _⟩ := outL_get HOW.out HR.out hz1
          obtain ⟨d2, hd2, he2, _⟩ := outL_get HOW.out HR.out hz2
          have hzz : z1 < z2 := by
            have := List.pairwise_iff_getElem.1 HR.out.lt m (m + 1) (by rw [← HN4.out]; omega) (by rw [← HN4.out]; omega) (by omega)
            rw [(List.getElem?_eq_some_iff.1 hz1).2, (List.getElem?_eq_some_iff.1 hz2).2] at this
            exact this
          have hrow := HC.out.grow HW.out
          obtain ⟨g4, k4, hv, _⟩ := hrow.open_ (by unfold outL; rw [List.length_map, ← HN4.out]; omega)
          have hv2 : (Value.slice a4 N4 c4) = .slice (some ⟨g4, 0, none⟩) N4 k4 := by rw [hv]; congr 1; unfold outL; rw [List.length_map, ← HN4.out]
          cases hv2
          have q1 : wr.cell? ⟨g4, m * 257, none⟩ = some (.int .i64 z1) := (hrow.range hd1 0 _ rfl).trans (by rw [← he1])
          have q2 : wr.cell? ⟨g4, (m + 1) * 257, none⟩ = some (.int .i64 z2) := (hrow.range hd2 0 _ rfl).trans (by rw [← he2])
          have e0 : decide (z2 ≤ z1) = false := by simp; omega
          have b0 : (0 : Int) ≤ ((m + 1 : Nat) : Int) := by omega
          have b1 : ((m + 1 : Nat) : Int) < (N4 : Int) := by omega
          clear hz1 hz2 hd1 he1 hd2 he2 hv hrow hzz
          go_upto_region 10 with (fail)

          go_quiet (fail)
          go_wp2
          go_roundw
          case rel => exact ⟨m + 2, by go_num, by omega, Lib.hid (Grow.trans HW.out (grow_drewN wr _))⟩
          case measure => simp [intOf]; omega
      · obtain rfl : m = N4 := by omega
        have HZE := Lib.hid (show zs.length = m from HN4.out.symm)
        obtain ⟨it, hit, hit1⟩ : ∃ it, Try.prog.info? (Try.prog.elem 25) = some it ∧ it.size = 3 := by
          have := info55e
          cases e : Try.prog.info? (Try.prog.elem 25) with
          | none => rw [e] at this; cases this
          | some it => rw [e] at this; exact ⟨it, rfl, Option.some.inj this⟩
        obtain ⟨ic, hic, hic1⟩ : ∃ it, Try.prog.info? (Try.prog.elem 33) = some it ∧ it.size = 257 := by
          have := info40e
          cases e : Try.prog.info? (Try.prog.elem 33) with
          | none => rw [e] at this; cases this
          | some it => rw [e] at this; exact ⟨it, rfl, Option.some.inj this⟩
        have HIT := Lib.hid hit
        have HIC := Lib.hid hic
        have HL0 := Lib.hid (show m = leftN zs (L.drop n) [] by rw [HNL.out, left_all]; exact HN4.out)
        have HWA := Lib.hid HW.out
        obtain ⟨w5, rfl⟩ : ∃ w5 : World, w5 = wr := ⟨_, rfl⟩
        clear hit hic HN4
        go_wp2_with fail
        go_loopw [6, 7] (fun t6 t7 wr => ∃ (k lf : Nat) (q : Int), t7 = .int .i64 q ∧ t6 = .int .i64 (lf : Int) ∧ k ≤ n ∧ lf ≤ 1000 ∧ Hid (q = (k : Int) - 1) ∧ Hid (Grow w4 wr ∧ lf = leftN zs (L.drop k) [])) (fun _ t7 _ => (intOf t7 + 1).toNat)
        case atStart => exact ⟨n, m, (n : Int) - 1, by go_num, rfl, by omega, by omega, Lib.hid rfl, Lib.hid ⟨HWA.out, HL0.out⟩⟩
        case round =>
          obtain ⟨k, lf, q, rfl, rfl, hkn, hlf, HQ, HI⟩ := hrel
          cases k with
          | zero =>
            obtain rfl : q = -1 := by have := HQ.out; omega
            obtain rfl : lf = 0 := by rw [HI.out.2, left_none HR.out]
            have HG := Lib.hid (Grow.trans HG4.out HI.out.1)
            go_wp2_with fail
            go_ret
            exact ⟨rfl, HG.out⟩
          | succ i =>
            obtain rfl : q = (i : Int) := by have := HQ.out; omega
            obtain ⟨x, hx⟩ : ∃ x, xs[i]? = some x := ⟨xs[i]'(by rw [← HN.out]; omega), by simp⟩
            have HXT := Lib.hid (show L[i]? = some x.t by rw [← HTS.out, List.getElem?_map, hx]; rfl)
            have HXA := Lib.hid (HT4.out.at_ x (List.mem_of_getElem? hx))
            obtain ⟨g3, k3, ac, nc, cc, ar, nr, cr, hv, q0, q1, q2, hvc, hnc, hvr, hnr, _⟩ := HT4.out.elem hx
            rw [← HN.out] at hv
            cases hv
            have HE0 := Lib.hid q0
            have HE1 := Lib.hid (show w4.cell? ⟨g3, i * 3 + 1, none⟩ = some (.slice ac nc cc) by rw [q1, hvc])
            have HE2 := Lib.hid (show w4.cell? ⟨g3, i * 3 + 2, none⟩ = some (.slice ar nr cr) by rw [q2, hvr])
            have HVC := Lib.hid hvc
            have HVR := Lib.hid hvr
            have HNC := Lib.hid hnc
            have hncb : nc ≤ 1000 := by
              have h1 := copyN_take HXT.out
              have h2 := copyN_le L (i + 1)
              have h3 := HCN.out
              omega
            have hi0 : i < n := by omega
            have hq1 := (cell_later HE1.out HI.out.1).2
            have HL1 := Lib.hid (show lf = leftN zs (L.drop (i + 1)) (x.t.cs.drop nc) by rw [HNC.out, left_start]; exact HI.out.2)
            clear hx q0 q1 q2 hvc hnc hvr hnr
            obtain ⟨wo, rfl⟩ : ∃ wo : World, wo = wr := ⟨_, rfl⟩
            go_wp2_with fail
            go_loopw [6, 8] (fun t6 t8 wr => ∃ (j lf : Nat) (q : Int), t8 = .int .i64 q ∧ t6 = .int .i64 (lf : Int) ∧ j ≤ nc ∧ lf ≤ 1000 ∧ Hid (q = (j : Int) - 1) ∧ Hid (Grow w4 wr ∧ lf = leftN zs (L.drop (i + 1)) (x.t.cs.drop j))) (fun _ t8 _ => (intOf t8 + 1).toNat)
            case atStart => exact ⟨nc, lf, (nc : Int) - 1, by go_num, rfl, by omega, hlf, Lib.hid rfl, Lib.hid ⟨HI.out.1, HL1.out⟩⟩
            case round =>
              obtain ⟨j, lf2, q2, rfl, rfl, hjn, hlf2, HQ2, HJ⟩ := hrel
              cases j with
              | zero =>
                obtain rfl : q2 = -1 := by have := HQ2.out; omega
                have HL2 := Lib.hid (show lf2 = leftN zs (L.drop i) [] by rw [HJ.out.2, left_next HXT.out])
                have HG := Lib.hid HJ.out.1
                go_wp2_with fail
                go_roundw
                case rel => exact ⟨i, lf2, (i : Int) - 1, by go_num, rfl, by omega, hlf2, Lib.hid rfl, Lib.hid ⟨HG.out, HL2.out⟩⟩
                case measure => first | (simp [intOf]; done) | (simp [intOf]; omega)
              | succ k =>
                obtain rfl : q2 = (k : Int) := by have := HQ2.out; omega
                obtain ⟨c, hcj⟩ : ∃ c, x.t.cs[k]? = some c := ⟨x.t.cs[k]'(by rw [← HNC.out]; omega), by simp⟩
                have hrow := (HXA.out.grow HJ.out.1).cs
                rw [HVC.out] at hrow
                obtain ⟨gc, kc, hvg, _⟩ := hrow.open_ (by rw [← HNC.out]; omega)
                rw [← HNC.out] at hvg
                cases hvg
                have HRG := Lib.hid (hrow.range hcj)
                have HCL := Lib.hid (hrow.blk (List.mem_of_getElem? hcj))
                have HSZ7 := Lib.hid (csizeL HCL.out)
                have HSY := Lib.hid (csize HCL.out)
                have HO1 := Lib.hid (all_oneCell_toArray (ccell_one c))
                have HZS := Lib.hid (zsize HCL.out)
                have HCJ := Lib.hid hcj
                have hq0 := (cell_later HE0.out HJ.out.1).2
                have hq1 := (cell_later HE1.out HJ.out.1).2
                have hz7 := zero40
                have hk0 : k < nc := by omega
                have b0 : (0 : Int) ≤ (i : Int) := by omega
                have b1 : (i : Int) < (n : Int) := by omega
                have b2 : (0 : Int) ≤ (k : Int) := by omega
                have b3 : (k : Int) < (nc : Int) := by omega
                have b4 : (0 : Int) ≤ (i : Int) + 1 := by omega
                have b5 : (i : Int) + 1 ≤ (n : Int) := by omega
                obtain ⟨Z, hZ⟩ : ∃ Z, Z = (ccell zeroC).toArray := ⟨_, rfl⟩
                rw [← hZ] at HZS hz7
                clear hcj hrow hZ
                go_upto_region 20 with (first | (refine wpList_load_mid rfl 40 _ rfl gc (k * 257) rfl (ccell c) _ HRG.out Try.underlying40 rfl HSZ7.out ?_) | (refine wpList_store_row rfl 40 _ _ rfl wr.heap.size (ccell c).toArray rfl rfl 40 Z (heap_alloc_last _ _) HSY.out HZS.out HO1.out ?_))
                have HRS := Lib.hid (show RSt w4 wr.heap.size c ((wr.alloc (.cells Z 40)).setRow wr.heap.size (ccell c).toArray) from ⟨Grow.trans HJ.out.1 (below_setRow ((Below.refl _ _).alloc (Nat.le_refl _) _) (Nat.le_refl _) _), setRow_heap _ _ _ _ _ _ (heap_alloc_last _ _)⟩)
                generalize (wr.alloc (.cells Z 40)).setRow wr.heap.size (ccell c).toArray = W2 at *
                obtain ⟨PC, hPC⟩ : ∃ PC, PC = wr.heap.size := ⟨_, rfl⟩
                rw [← hPC] at HRS ⊢
                have HPC := Lib.hid HRS.out.pc
                have HQ1 := Lib.hid (cell_later HE1.out HRS.out.grow)
                obtain ⟨NV, hNV⟩ : ∃ NV, NV = ((L.drop (i + 1)).any fun u => nmB u c.1) := ⟨_, rfl⟩
                obtain ⟨CV, hCV⟩ : ∃ CV, CV = hasC (x.t.cs.drop (k + 1)) c.1 := ⟨_, rfl⟩
                have HNM := Lib.hid (show ∀ w', Grow W2 w' → Calls Try.prog 22 #[sliced (some ⟨g3, 0, none⟩) (i + 1) n c3 3, .int .i64 c.1] w' fun e w'' => e = .returned (.bool NV) ∧ Grow w' w'' from fun w' hg => by
                  have hrw := HT4.out.grow (Grow.trans HRS.out.grow hg)
                  have := named_ok (w := w') (v := sliced (some ⟨g3, 0, none⟩) (i + 1) n c3 3) (xs := xs.drop (i + 1)) (by rw [List.map_drop]; exact Row.sliced hrw.row (i + 1) (by omega)) (fun y hy => hrw.at_ y (List.mem_of_mem_drop hy)) (by rw [List.length_drop, ← HN.out]; omega) (fun y hy => by
                    have hy2 := List.mem_of_mem_drop hy
                    have h1 : y.t ∈ L := by rw [← HTS.out]; exact List.mem_map_of_mem hy2
                    have h2 : y.t.cs.length ≤ copyN L := by
                      unfold copyN
                      obtain ⟨ii, hii, he⟩ := List.getElem_of_mem h1
                      have h3 := copyN_take (l := L) (k := ii) (t := y.t) (by rw [List.getElem?_eq_getElem hii, he])
                      have h4 := copyN_le L (ii + 1)
                      unfold copyN at h3 h4
                      omega
                    have := HCN.out
                    omega) c.1
                  rw [any_drop_map HTS.out, ← hNV] at this
                  exact this)
                have HCP := Lib.hid (show ∀ w', Grow W2 w' → Calls Try.prog 23 #[sliced (some ⟨gc, 0, none⟩) (k + 1) nc cc 257, .int .i64 c.1] w' fun e w'' => e = .returned (.bool CV) ∧ w' = w'' from fun w' hg => by
                  have hrw := (HXA.out.grow (Grow.trans HRS.out.grow hg)).cs
                  rw [HVC.out] at hrw
                  have := copies_ok (w := w') (v := sliced (some ⟨gc, 0, none⟩) (k + 1) nc cc 257) (cs := x.t.cs.drop (k + 1)) (by rw [List.map_drop]; exact Row.sliced hrw (k + 1) (by omega)) (by rw [List.length_drop, ← HNC.out]; omega) c.1
                  rw [← hCV] at this
                  exact this.mono fun e w'' ⟨h1, h2⟩ => ⟨h1, h2.symm⟩)
                have HNE := Lib.hid (show ∀ w, (binOp .neq 29 (.agg (bc c.2).toArray) (.agg (bc c.2).toArray)).run Try.prog w = .ok (.bool false) w from fun w => by rw [neqB c.2 c.2 HCL.out HCL.out w, decide_eq_true rfl]; rfl)
                have HNVE := Lib.hid hNV
                have HCVE := Lib.hid hCV
                clear hNV hCV hPC hq0 hq1 hz7
                cases hnv : NV with
                | true =>
                  have HNV := Lib.hid hnv
                  have HL3 := Lib.hid (show lf2 = leftN zs (L.drop (i + 1)) (x.t.cs.drop k) by rw [HJ.out.2, left_named HR.out HXT.out HCJ.out (.inl (HNVE.out.symm.trans HNV.out))])
                  clear hnv HCP HNE HCVE HNVE
                  refine rev_reg20t i k n c3 g3 PC c W2 it HIT hit1 hi0 hnb HPC NV _ (Lib.hid rfl) HNM HNV _ _ _ _ _ _ _ _ _ _ _ _ _ _ _ _ _ _ _ _ _ _ _ _ _ _ _ _ _ _ _ _ _ _ _ _ _ _ _ _ _ _ _ _ _ _ _ _ _ _ _ _ _ _ _ _ _ _ _ _ _ _ _ _ _ _ _ _ _ _ _ _ _ _ _ _ _ _ _ _ _ _ _ _ _ _ _ _ _ _ _ _ _ _ _ _ _ _ _ _ _ _ _ _ _ _ _ _ _ _ _ _ _ _ _ _ _ _ _ _ _ _ _ _ _ _ _ (Lib.hid ?hrevreg20t)
                  intro u70 u71 u72 u73 u74 u75 u76 u77 u78 u79 u80 u81 u82 u83 u84 u85 u86 u87 u88 W6 hRW6
                  have HG6 := Lib.hid (Grow.trans HRS.out.grow (hRW6.below (Nat.le_refl _) (by simp)))
                  clear hRW6
                  go_wp2_with fail
                  go_roundw
                  case rel => exact ⟨k, lf2, (k : Int) - 1, by go_num, rfl, by omega, hlf2, Lib.hid rfl, Lib.hid ⟨HG6.out, HL3.out⟩⟩
                  case measure => first | (simp [intOf]; done) | (simp [intOf]; omega)
                | false =>
                  have HNV := Lib.hid hnv
                  obtain ⟨cb, hcb⟩ : ∃ cb, cb = CV := ⟨_, rfl⟩
                  have HCV := Lib.hid hcb.symm
                  clear hnv
                  refine rev_reg20f i k n c3 g3 PC gc nc cc c W2 it HIT hit1 hi0 hnb HPC NV _ (Lib.hid rfl) HNM HNV ic HIC hic1 hk0 hncb HQ1 CV cb _ (Lib.hid rfl) HCP HCV _ _ _ _ _ _ _ _ _ _ _ _ _ _ _ _ _ _ _ _ _ _ _ _ _ _ _ _ _ _ _ _ _ _ _ _ _ _ _ _ _ _ _ _ _ _ _ _ _ _ _ _ _ _ _ _ _ _ _ _ _ _ _ _ _ _ _ _ _ _ _ _ _ _ _ _ _ _ _ _ _ _ _ _ _ _ _ _ _ _ _ _ _ _ _ _ _ _ _ _ _ _ _ _ _ _ _ _ _ _ _ _ _ _ _ _ _ _ _ _ _ _ _ _ _ _ _ (Lib.hid ?hrevreg20f)
                  intro u70 u71 u72 u73 u74 u75 u76 u77 u78 u79 u80 u81 u82 u83 u84 u85 u86 u87 u88 W6 hRW6
                  have HRS6 := Lib.hid (HRS.out.later (hRW6.below (Nat.le_refl _) (by simp)))
                  clear hRW6
                  cases hcb2 : cb with
                  | true =>
                    have HL3 := Lib.hid (show lf2 = leftN zs (L.drop (i + 1)) (x.t.cs.drop k) by rw [HJ.out.2, left_named HR.out HXT.out HCJ.out (.inr (by rw [← HCVE.out, ← hcb, hcb2]))])
                    clear hcb hcb2
                    go_wp2_with fail
                    go_roundw
                    case rel => exact ⟨k, lf2, (k : Int) - 1, by go_num, rfl, by omega, hlf2, Lib.hid rfl, Lib.hid ⟨HRS6.out.grow, HL3.out⟩⟩
                    case measure => first | (simp [intOf]; done) | (simp [intOf]; omega)
                  | false =>
                    have HCF := Lib.hid (show hasC (x.t.cs.drop (k + 1)) c.1 = false by rw [← HCVE.out, ← hcb, hcb2])
                    have HNF := Lib.hid (show ((L.drop (i + 1)).any fun u => nmB u c.1) = false by rw [← HNVE.out, HNV.out])
                    clear hcb hcb2
                    have HRSa := Lib.hid HRS6.out
                    go_wp2_with fail
                    go_loopw [10, 11] (fun t10 t11 wr => ∃ (u : Nat) (fd : Int), t11 = .int .i64 (u : Int) ∧ t10 = .int .i64 fd ∧ u ≤ m ∧ Hid (RSt w4 PC c wr ∧ FoundIs zs c.1 u fd)) (fun _ t11 _ => m - (intOf t11).toNat)
                    case atStart => exact ⟨0, -1, by go_num, rfl, by omega, Lib.hid ⟨HRS6.out, .inl ⟨rfl, by simp⟩⟩⟩
                    case round =>
                      obtain ⟨u, fd, rfl, rfl, hum, HU⟩ := hrel
                      by_cases hlu : u < m
                      · obtain ⟨z, hz⟩ : ∃ z, zs[u]? = some z := ⟨zs[u]'(by rw [HZE.out]; omega), by simp⟩
                        obtain ⟨d, hd, hde, _⟩ := outL_get HOW.out HR.out hz
                        have hrow := HC.out.grow HU.out.1.grow
                        obtain ⟨g4, k4, hv, _⟩ := hrow.open_ (by unfold outL; rw [List.length_map, HZE.out]; omega)
                        have hv2 : (Value.slice a4 m c4) = .slice (some ⟨g4, 0, none⟩) m k4 := by rw [hv]; congr 1; unfold outL; rw [List.length_map, HZE.out]
                        cases hv2
                        have q1 : wr.cell? ⟨g4, u * 257, none⟩ = some (.int .i64 z) := (hrow.range hd 0 _ rfl).trans (by rw [← hde])
                        have q2 := HU.out.1.pc.2
                        have u0 : (0 : Int) ≤ (u : Int) := by omega
                        have u1 : (u : Int) < (m : Int) := by omega
                        have HZU := Lib.hid hz
                        clear hz hd hde hv hrow
                        by_cases e : z = c.1
                        · have e0 : (z == c.1) = true := by simp [e]
                          have HF := Lib.hid (show FoundIs zs c.1 (u + 1) (u : Int) from FoundIs.yes (by rw [← e]; exact HZU.out))
                          clear e
                          go_upto_region 25 with (fail)
                          go_quiet (fail)
                          go_wp2
                          go_roundw
                          case rel => exact ⟨u + 1, (u : Int), by go_num, rfl, by omega, Lib.hid ⟨HU.out.1.later (grow_drewN wr _), HF.out⟩⟩
                          case measure => simp [intOf]; omega
                        · have e0 := beq_ff e
                          have HF := Lib.hid (show FoundIs zs c.1 (u + 1) fd from FoundIs.no HU.out.2 HZU.out e)
                          clear e
                          go_upto_region 25 with (fail)
                          go_quiet (fail)
                          go_wp2
                          go_roundw
                          case rel => exact ⟨u + 1, fd, by go_num, rfl, by omega, Lib.hid ⟨HU.out.1.later (grow_drewN wr _), HF.out⟩⟩
                          case measure => simp [intOf]; omega
                      · obtain rfl : u = m := by omega
                        have HFN := Lib.hid (show FoundIs zs c.1 zs.length fd by rw [HZE.out]; exact HU.out.2)
                        have HRS7 := Lib.hid HU.out.1
                        have HPC := Lib.hid HRS7.out.pc
                        have HQ0 := Lib.hid (cell_later HE0.out HRS7.out.grow)
                        have HQ1 := Lib.hid (cell_later HE1.out HRS7.out.grow)
                        have HQ2 := Lib.hid (cell_later HE2.out HRS7.out.grow)
                        obtain ⟨RV, hRV⟩ : ∃ RV, RV = x.t.rs.any (· == c.1) := ⟨_, rfl⟩
                        have HRV := Lib.hid (show ∀ w', Grow wr w' → Calls Try.prog 24 #[.agg #[.int .u32 (x.t.seq : Int), .slice (some ⟨gc, 0, none⟩) nc cc, .slice ar nr cr], .int .i64 c.1] w' fun e w'' => e = .returned (.bool RV) ∧ Grow w' w'' from fun w' hg => by
                          have hat := HXA.out.grow (Grow.trans HRS7.out.grow hg)
                          have := revokes_ok (w := w') (x := x) (Row.see hat.rs) hat.ok.rn c.1
                          unfold tcell at this
                          rw [HVC.out, HVR.out, ← hRV] at this
                          exact this)
                        have HRVE := Lib.hid hRV
                        obtain ⟨rb, hrb⟩ : ∃ rb, rb = RV := ⟨_, rfl⟩
                        have HRB := Lib.hid hrb.symm
                        clear hRV
                        go_upto_region 27 with (fail)
                        refine rev_reg27 i n c3 g3 PC gc nc cc nr cr ar x c wr hi0 hnb HPC HQ0 HQ1 HQ2 RV rb HRV HRB _ _ _ _ _ _ _ _ _ _ _ _ _ _ _ _ _ _ _ _ _ _ _ _ _ _ _ _ _ _ _ _ _ _ _ _ _ _ _ _ _ _ _ _ _ _ _ _ _ _ _ _ _ _ _ _ _ _ _ _ _ _ _ _ _ _ _ _ _ _ _ _ _ _ _ _ _ _ _ _ _ _ _ _ _ _ _ _ _ _ _ _ _ _ _ _ _ _ _ _ _ _ _ _ _ _ _ _ _ _ _ _ _ _ _ _ _ _ _ _ _ _ _ _ _ _ _ _ (Lib.hid ?hrevreg27)
                        intro u105 u106 u107 u108 u109 u110 W7 hRW7
                        have HRS8 := Lib.hid (HRS7.out.later (hRW7.below (Nat.le_refl _) (by simp)))
                        clear hRW7
                        cases hrb2 : rb with
                        | true =>
                          have HOV := Lib.hid (last_revoked HXT.out HNF.out (anyB_iff.1 (show x.t.rs.any (· == c.1) = true by rw [← HRVE.out, ← hrb, hrb2])))
                          have hfd : fd = -1 := FoundIs.none_ HFN.out (fun hm => by have h1 := (HR.out.mem _).1 hm; unfold HasM at h1; rw [HOV.out] at h1; cases h1)
                          have HL3 := Lib.hid (show lf2 = leftN zs (L.drop (i + 1)) (x.t.cs.drop k) by rw [HJ.out.2, left_revoked HR.out HCJ.out HOV.out])
                          subst hfd
                          clear hrb hrb2
                          go_wp2_with fail
                          go_roundw
                          case rel => exact ⟨k, lf2, (k : Int) - 1, by go_num, rfl, by omega, hlf2, Lib.hid rfl, Lib.hid ⟨HRS8.out.grow, HL3.out⟩⟩
                          case measure => first | (simp [intOf]; done) | (simp [intOf]; omega)
                        | false =>
                          have HOV := Lib.hid (last_copy HXT.out HCJ.out HNF.out HCF.out (fun hm => by have h1 := anyB_iff.2 hm; rw [← HRVE.out, ← hrb, hrb2] at h1; cases h1))
                          have hmem : c.1 ∈ zs := (HR.out.mem _).2 (by unfold HasM; rw [HOV.out]; rfl)
                          obtain ⟨q, hq, hzq⟩ := FoundIs.some_ HFN.out hmem
                          obtain ⟨lf3, hlf3⟩ : ∃ lf3, lf3 = leftN zs (L.drop (i + 1)) (x.t.cs.drop k) := ⟨_, rfl⟩
                          have hlf4 : lf2 = lf3 + 1 := by rw [HJ.out.2, left_copy HR.out HCJ.out HNF.out HCF.out HOV.out, hlf3]
                          have HL3 := Lib.hid hlf3
                          have hqm : q < u := by have := (List.getElem?_eq_some_iff.1 hzq).1; rw [HZE.out] at this; exact this
                          obtain ⟨d, hd, hde, hdf⟩ := outL_get HOW.out HR.out hzq
                          have hdc : d = c := by rw [HOV.out] at hdf; exact (Option.some.inj hdf).symm
                          subst hdc
                          have hrow := HC.out.grow HRS8.out.grow
                          obtain ⟨g4, k4, hv, hg4⟩ := hrow.open_ (by unfold outL; rw [List.length_map, HZE.out]; omega)
                          have hv2 : (Value.slice a4 u c4) = .slice (some ⟨g4, 0, none⟩) u k4 := by rw [hv]; congr 1; unfold outL; rw [List.length_map, HZE.out]
                          cases hv2
                          have HRQ := Lib.hid (show g4 < W7.heap.size ∧ W7.rangeAt g4 (q * 257 + 1) (bc d.2) from ⟨hg4, fun j v hj => by have := hrow.range hd (j + 1) v hj; rw [show q * 257 + (j + 1) = q * 257 + 1 + j by omega] at this; exact this⟩)
                          have HPD := Lib.hid HRS8.out.data
                          have HPC := Lib.hid HRS8.out.pc
                          have v0 : (0 : Int) ≤ (q : Int) := by omega
                          have v1 : (q : Int) < (u : Int) := by omega
                          have e1 : decide ((0 : Int) ≤ (q : Int)) = true := by simp
                          have e2 : decide ((q : Int) < 0) = false := by simp
                          subst hq hlf4
                          clear hrb hrb2 hzq hd hde hdf hv hrow hlf3 hmem hg4
                          go_upto_region 30 with (fail)
                          refine rev_reg30 q u c4 g4 PC d W7 hqm (by omega) HCL HRQ HPD _ (Lib.hid rfl) HNE _ _ _ _ _ _ _ _ _ _ _ _ _ _ _ _ _ _ _ _ _ _ _ _ _ _ _ _ _ _ _ _ _ _ _ _ _ _ _ _ _ _ _ _ _ _ _ _ _ _ _ _ _ _ _ _ _ _ _ _ _ _ _ _ _ _ _ _ _ _ _ _ _ _ _ _ _ _ _ _ _ _ _ _ _ _ _ _ _ _ _ _ _ _ _ _ _ _ _ _ _ _ _ _ _ _ _ _ _ _ _ _ _ _ _ _ _ _ _ _ _ _ _ _ _ _ _ _ (Lib.hid ?hrevreg30)
                          intro u114 u115 u116 u117 u118 u119 u120 u121 u122 u123 u124 W8 hRW8
                          have HG9 := Lib.hid (Grow.trans HRS8.out.grow (hRW8.below (Nat.le_refl _) (by simp)))
                          clear hRW8
                          go_wp2_with fail
                          go_roundw
                          case rel => exact ⟨k, lf3, (k : Int) - 1, by go_num, by go_num, by omega, by omega, Lib.hid rfl, Lib.hid ⟨HG9.out, HL3.out⟩⟩
                          case measure => first | (simp [intOf]; done) | (simp [intOf]; omega)
#print axioms revoked_walk
end Go.Proofs.Ytlhhbkpocpnebaa
