/- The law TxnGets: the walk. -/
import Derived.Test.YtnogajnoghjmhaaT28a
import Derived.Test.YtnogajnoghjmhaaT28b
import Derived.Test.YtnogajnoghjmhaaT28c
set_option linter.unusedVariables false
set_option linter.unusedSimpArgs false
namespace Go.Proofs.Ytnogajnoghjmhaa
open Go.RowKit Go.Maps

theorem PRow.grow {w w' : World} {v : Value} {m : List PP} (h : PRow w v m) (hg : Grow w w') : PRow w' v m := Row.kept h (Touch.of_below (S := []) hg) (by simp)
theorem pcell_one (p : PP) : ∀ v ∈ pcell p, v.oneCell' = true := by
  intro v hv
  unfold pcell at hv
  simp only [List.mem_cons, List.not_mem_nil, or_false] at hv
  rcases hv with rfl | rfl <;> rfl
theorem mk_put1 (p : PP) (w : World) : (Instr.buildSlice 23 1 #[(0, .agg (pcell p).toArray)]).run Try.prog w = .ok (.slice (some ⟨w.heap.size, 0, none⟩) 1 1) (w.alloc (.cells (pcell p).toArray 30)) := by kernel_rfl
theorem wpList_bs_put {w : World} {ops : Array Oper} {rest : List Oper} {o : Oper} {a : Act} {Q : Exit → Act → World → Prop} (hgd : o.guard = none) (x : Operand) (ho : o.op = .buildSlice 23 1 #[(0, x)]) (p : PP) (hx : a.eval x = .agg (pcell p).toArray)
    (hK : ∀ w' g, (∀ j u, (pcell p)[j]? = some u → w'.cell? ((⟨g, 0, none⟩ : Addr).add j) = some u) → Grow w w' → wpList Try.prog ops Q rest (a.put o.dst (.slice (some ⟨g, 0, none⟩) 1 1)) w') : wpList Try.prog ops Q (o :: rest) a w :=
  wpList_buildSlice hgd _ 1 _ ho (by simp only [List.map_toArray, List.map_cons, List.map_nil, hx]; exact mk_put1 p w) (hK _ _ (new_cells _ _ _) (Grow.alloc _ _))
structure LInv (w : World) (cs : List PP) (v : Value) (wr : World) : Prop where
  row : PRow wr v cs
  grow : Grow w wr
  vl : ∀ g, v.ownBlock = some g → w.heap.size ≤ g
theorem LInv.app {w wr w2 wa : World} {cs : List PP} {v v' : Value} {c : PP} (h : LInv w cs v wr) (hg : Grow wr w2) (ha : AppAtE 30 2 w2 v (cs.map pcell ++ [pcell c]) v' wa) (ht : Touch (ownL v) w2 wa) : LInv w (cs ++ [c]) v' wa where
  row := by unfold PRow; rw [List.map_append]; exact ha.1
  grow := Below.trans (Grow.trans h.grow hg) (ht.below (Nat.le_trans h.grow.size hg.size) (fun j hj => h.vl _ (ownL_mem.1 hj)))
  vl := fun g e => by
    rcases ha.2 with h1 | ⟨g', h1, h2⟩
    · exact h.vl g (h1 ▸ e)
    · rw [e] at h1; cases h1
      have h3 := h.grow.size
      have h4 := hg.size
      omega
theorem LInv.later {w wr w2 : World} {cs : List PP} {v : Value} (h : LInv w cs v wr) (hg : Grow wr w2) : LInv w cs v w2 := ⟨h.row.grow hg, Grow.trans h.grow hg, h.vl⟩
def keepP (m : List PP) (b : Int) : List PP := m.filter fun q => decide (q.1 ≠ b)
theorem keepP_take {m : List PP} {b : Int} {j : Nat} {q : PP} (h : m[j]? = some q) : keepP (m.take (j + 1)) b = keepP (m.take j) b ++ (if q.1 = b then [] else [q]) := by
  unfold keepP
  rw [List.take_add_one, h, List.filter_append]
  congr 1
  by_cases e : q.1 = b <;> simp [e]
theorem keepP_le (m : List PP) (b : Int) (j : Nat) : (keepP (m.take j) b).length ≤ m.length := by
  unfold keepP
  exact Nat.le_trans (List.length_filter_le _ _) (by rw [List.length_take]; exact Nat.min_le_right _ _)
theorem gets_look {m : List PP} {s : PS} (hs : s.ch = m.map fillP) (hn : (keysA s.ch).Nodup) {i : Nat} {p : PP} (hp : m[i]? = some p) : lookA s.ch p.1 = some (fillB p.2) ∧ p.1 ∈ keysA s.ch := by
  have hm : fillP p ∈ s.ch := by rw [hs]; exact List.mem_map.2 ⟨p, List.mem_of_getElem? hp, rfl⟩
  exact ⟨lookA_mem hn hm, by unfold keysA; exact List.mem_map.2 ⟨fillP p, hm, rfl⟩⟩
set_option maxRecDepth 100000 in
set_option maxHeartbeats 8000000 in
theorem gets_walk (seq : Nat) (hs : seq < 4294967296) {w : World} {v : Value} {l : List PP} (h : PutsIn w v l) (hl : l.length ≤ 9223372036854775807) :
    Calls Try.prog 3 #[.int .u32 (seq : Int), v] w fun e w' => e = .returned (.bool true) ∧ Below w.heap.size w w' := by
  have hz := zero32
  have hzt := zeroT
  have hzs := zero_size
  obtain ⟨ip, hip, hp0, hp1, hp2⟩ := info_parts infoPut
  have HIP := Lib.hid hip
  have HA := Lib.hid h
  obtain ⟨a1, cap1, hv1⟩ := PutsIn.len h
  obtain ⟨n, hn⟩ : ∃ n, n = l.length := ⟨_, rfl⟩
  rw [← hn] at hv1 hl
  subst hv1
  have HN := Lib.hid hn
  clear h hn hip
  obtain ⟨Z, hZ⟩ : ∃ Z, Z = (bc zeroB).toArray := ⟨_, rfl⟩
  rw [← hZ] at hzs
  simp only [← hZ] at hz
  have HZS := Lib.hid hzs
  clear hzs hZ
  by_cases g1 : 200 < n
  · have d1 : decide ((200 : Int) < (n : Int)) = true := decide_eq_true (by omega)
    go_enter Try.func3, Try.ntmps3
    go_wp2_with fail
    go_ret
    exact ⟨rfl, Below.refl _ _⟩
  have d1 : decide ((200 : Int) < (n : Int)) = false := decide_eq_false (by omega)
  go_enter Try.func3, Try.ntmps3
  go_wp2_with fail
  refine (live_new seq (P := []) _ (by simp)).mono ?_
  rintro e w1 ⟨B, rfl, hL⟩
  have HL0 := Lib.hid hL
  clear hL
  go_wp2_with fail
  refine (HL0.out.begin_ (by omega) hs (c := 1000) (r := 0) ⟨by omega, by omega⟩).mono ?_
  intro e w2 hp
  obtain ⟨rfl, hT, _⟩ := hp
  have HT0 := Lib.hid (show Live w (ownL (.slice none 0 0)) B 1 seq (.o noPS noPS 1000 0 []) w2 from hT)
  have hz0 : (beginT (.c noPS) 1000 0).1 = 0 := rfl
  rw [hz0]
  clear hT hz0
  go_wp2_with fail
  clear d1
  go_loopw [6, 7] (fun t6 t7 wr => ∃ (k : Nat) (m : List PP) (t : TS), k ≤ n ∧ t7 = .int .i64 (k : Int) ∧ (∃ a n c, t6 = .slice a n c) ∧ Hid (Live w (ownL t6) B (1 + k) seq t wr) ∧ Hid (PRow wr t6 m) ∧ Hid (GInv k m t) ∧ Hid (∀ g, t6.ownBlock = some g → w.heap.size ≤ g)) (fun _ t7 _ => n - (intOfV t7).toNat)
  case atStart => exact ⟨0, [], _, by omega, rfl, ⟨none, 0, 0, rfl⟩, HT0, Lib.hid (rowNil _ _ _), Lib.hid GInv.start, Lib.hid (fun g e => by cases e)⟩
  case round =>
    obtain ⟨k, m, t, hk, rfl, ⟨am, nm, cm, rfl⟩, HT, HM, HG, HV⟩ := hrel
    have HNM := Lib.hid (show nm = m.length by obtain ⟨_, _, h⟩ := PRow.len HM.out; cases h; rfl)
    by_cases hlt : k < n
    · obtain ⟨⟨b, f⟩, hp⟩ : ∃ p, l[k]? = some p := ⟨l[k]'(by rw [← HN.out]; exact hlt), by simp⟩
      obtain ⟨y, cap', hv, hyb, hc0, hc1, hff⟩ := HA.out.at_ hp
      rw [← HN.out] at hv
      cases hv
      have HP0 := Lib.hid ((HT.out.grow.cell (by rw [add_block]; exact hyb)).trans hc0)
      have HP1 := Lib.hid ((HT.out.grow.cell (by rw [add_block, add_block]; exact hyb)).trans hc1)
      have HPL := Lib.hid (Nat.lt_of_lt_of_le hyb HT.out.grow.size)
      obtain ⟨bu, hbu⟩ : ∃ bu, IntKind.u64.wrap b = bu := ⟨_, rfl⟩
      obtain ⟨c, hcc⟩ : ∃ c, bu.tmod 1000 = c := ⟨_, rfl⟩
      have hc : 0 ≤ c ∧ c < 1000 := by
        rw [IntKind.wrap_u64] at hbu
        rw [Int.tmod_eq_emod_of_nonneg (by omega)] at hcc
        omega
      have HBU := Lib.hid hbu
      have HCC0 := Lib.hid hcc
      have HWC := Lib.hid (show IntKind.i64.wrap c = c by rw [IntKind.wrap_i64]; omega)
      have HFF := Lib.hid (show f < 4294967296 from hff)
      obtain ⟨t', hq, hi'⟩ := HG.out.put (p := (c, f)) (by omega) ⟨HFF.out, hc.1, hc.2⟩
      have HQ := Lib.hid hq
      have HG' := Lib.hid hi'
      clear hp hc0 hc1 hyb hbu hcc hff hq hi'
      go_upto_region 10 with (fail)
      refine gets_reg10 y n cap1 k f b bu c wr (Lib.hid (by omega)) (Lib.hid (by omega)) HP0 HP1 HPL HBU HCC0 HWC _ _ _ _ _ _ _ _ _ _ _ _ _ _ _ _ _ _ _ _ _ _ _ _ _ _ _ _ _ _ _ _ _ _ _ _ _ _ _ _ _ _ _ _ _ _ _ _ _ _ _ _ _ _ _ _ _ _ _ _ _ _ _ _ _ _ _ _ _ _ _ _ _ _ _ _ _ _ _ _ _ _ _ _ _ _ _ _ _ _ _ _ _ _ _ _ _ _ _ _ _ _ _ _ _ _ _ _ _ _ _ _ _ _ _ _ _ _ _ _ _ _ _ _ _ _ _ _ _ _ _ _ _ _ _ _ _ _ _ _ _ _ _ _ _ _ _ _ _ _ _ _ _ _ _ _ _ _ _ _ _ _ _ _ _ _ _ _ _ _ _ _ _ _ _ _ _ _ _ _ _ _ _ _ _ _ _ _ _ _ _ _ (Lib.hid ?hk10)
      intro u32 u33 u34 u35 u36 u37 u38 u39 u40 u41 u42 u43 u44 u45 wx X hX hob hx
      have HT1 := Lib.hid (HT.out.spare (Q := X :: ownL (.slice am nm cm)) hx.grow (fun g hg => by
        rcases List.mem_cons.1 hg with rfl | hg
        · exact .inr ⟨hX, (Array.getElem?_eq_some_iff.1 hob).1⟩
        · exact .inl hg))
      have HM1 := Lib.hid (HM.out.grow hx.grow)
      have HO1 := Lib.hid hob
      have HX0 := Lib.hid (Nat.le_trans HT.out.grow.size hX)
      clear hX hob hx HP0 HP1 HPL HBU HCC0 HWC
      go_upto_region 11 with (fail)
      refine gets_reg11 B X (1 + k) seq f (X :: ownL (.slice am nm cm)) t t' c w wx (Lib.hid ⟨(Array.getElem?_eq_some_iff.1 HO1.out).1, cell_at HO1.out 0⟩) (Lib.hid ⟨(Array.getElem?_eq_some_iff.1 HO1.out).1, cell_at HO1.out 1⟩) HT1 (by omega) hs ⟨by omega, by omega⟩ HFF.out HQ _ _ _ _ _ _ _ _ _ _ _ _ _ _ _ _ _ _ _ _ _ _ _ _ _ _ _ _ _ _ _ _ _ _ _ _ _ _ _ _ _ _ _ _ _ _ _ _ _ _ _ _ _ _ _ _ _ _ _ _ _ _ _ _ _ _ _ _ _ _ _ _ _ _ _ _ _ _ _ _ _ _ _ _ _ _ _ _ _ _ _ _ _ _ _ _ _ _ _ _ _ _ _ _ _ _ _ _ _ _ _ _ _ _ _ _ _ _ _ _ _ _ _ _ _ _ _ _ _ _ _ _ _ _ _ _ _ _ _ _ _ _ _ _ _ _ _ _ _ _ _ _ _ _ _ _ _ _ _ _ _ _ _ _ _ _ _ _ _ _ _ _ _ _ _ _ _ _ _ _ _ _ _ _ _ _ _ _ _ _ _ _ (Lib.hid ?hk11)
      intro u46 u47 u48 u49 u50 u51 u52 wb hL hS
      have HTb := Lib.hid hL
      have HMb := Lib.hid (show PRow wb (.slice am nm cm) m from hS.row HM1.out (fun g e => List.mem_cons_of_mem _ (ownL_mem.2 e)))
      have HOb := Lib.hid (show wb.heap[X]? = some (.cells #[.int .i64 c, .int .u32 (f : Int)] 30) by
        obtain ⟨S, h1, h2⟩ := hS
        exact (h1.block X (Array.getElem?_eq_some_iff.1 HO1.out).1 (fun hm => h2 X hm (by simp))).trans HO1.out)
      clear hL hS HT1 HM1 HO1 HT HM
      go_wp2_with fail
      go_loopw [9, 10] (fun t9 t10 ws => ∃ (j : Nat), j ≤ nm ∧ t10 = .int .i64 (j : Int) ∧ (∃ a n c, t9 = .slice a n c) ∧ Hid (LInv wb (keepP (m.take j) c) t9 ws)) (fun _ t10 _ => nm - (intOfV t10).toNat)
      case atStart => exact ⟨0, by omega, rfl, ⟨none, 0, 0, rfl⟩, Lib.hid ⟨rowNil _ _ _, Grow.refl _, fun g e => by cases e⟩⟩
      case round =>
        obtain ⟨j, hj, rfl, ⟨a9, n9, c9, rfl⟩, HI⟩ := hrel
        have hmk : m.length ≤ 200 := by have := HG.out.le; omega
        have hnm : nm ≤ 200 := by have := HNM.out; omega
        have hobx := (HI.out.grow.block X (Array.getElem?_eq_some_iff.1 HOb.out).1).trans HOb.out
        have x0 : wr.cell? ⟨X, 0, none⟩ = some (.int .i64 c) := cell_at hobx 0
        have x1 : wr.cell? ⟨X, 1, none⟩ = some (.int .u32 (f : Int)) := cell_at hobx 1
        clear hobx
        have HLk := Lib.hid (show ((keepP (m.take j) c).map pcell).length + 1 ≤ 1000000 by rw [List.length_map]; have := keepP_le m c j; omega)
        have HRI := Lib.hid HI.out.row
        by_cases hlj : j < nm
        · obtain ⟨⟨qb, qf⟩, hq⟩ : ∃ q, m[j]? = some q := ⟨m[j]'(by have := HNM.out; omega), by simp⟩
          obtain ⟨gm, hgm, hgl, hg0, hg1⟩ := PRow.at_ HMb.out hq
          cases hgm
          have k0 := (HI.out.grow.cell (p := ⟨gm, j * 2, none⟩) hgl).trans hg0
          have k1 := (HI.out.grow.cell (p := ⟨gm, j * 2 + 1, none⟩) hgl).trans hg1
          have HTK := Lib.hid (keepP_take (b := c) hq)
          have b0 : (0 : Int) ≤ (j : Int) := by omega
          have b1 : (j : Int) < (nm : Int) := by omega
          clear hq hg0 hg1 hgl
          by_cases hqc : qb = c
          · have e0 : (qb == c) = true := by simpa using hqc
            have HI2 := Lib.hid (show LInv wb (keepP (m.take (j + 1)) c) (.slice a9 n9 c9) wr by rw [HTK.out, if_pos hqc, List.append_nil]; exact HI.out)
            clear hqc
            go_upto_region 17 with (fail)
            go_quiet (fail)
            clear x0 x1 k0 k1
            go_wp2_with fail
            go_roundw
            case rel => exact ⟨j + 1, by omega, by go_num, ⟨_, _, _, rfl⟩, Lib.hid (HI2.out.later (grow_drewN _ _))⟩
            case measure => simp [intOfV]; omega
          · have e0 : (qb == c) = false := by simpa using hqc
            have HQC := Lib.hid hqc
            clear hqc
            go_upto_region 17 with (fail)
            go_quiet (fail)
            have HId := Lib.hid (HI.out.later (grow_drewN wr nq))
            have HRI := Lib.hid HId.out.row
            have k2 : (wr.drewN nq).cell? ⟨gm, j * 2, none⟩ = some (.int .i64 qb) := k0
            have k3 : (wr.drewN nq).cell? ⟨gm, j * 2 + 1, none⟩ = some (.int .u32 (qf : Int)) := k1
            clear x0 x1 k0 k1
            generalize wr.drewN nq = wd at *
            go_wp2_with (first | (refine wpList_bs_put rfl (.tmp 72) rfl (qb, qf) rfl ?_; intro wc gc hcl hgc; have HCC := Lib.hid hcl; have HGC := Lib.hid hgc; have HRC := Lib.hid (PRow.grow HRI.out hgc); clear hcl hgc) | (at_builtin; refine wpList_append_row rfl (.tmp 68) (.tmp 73) 23 rfl 30 ip (.agg #[.int .i64 0, .int .u32 0]) 2 16 Try.underlying23 HIP.out hp0 hp1 hp2 rfl (by omega) (.slice a9 n9 c9) ((keepP (m.take j) c).map pcell) rfl HRC.out ⟨gc, 0, none⟩ 1 (pcell (qb, qf)) rfl rfl HCC.out (pcell_one _) HLk.out (by omega) ?_; intro v' wa happ htch))
            have HI2 := Lib.hid (show LInv wb (keepP (m.take (j + 1)) c) v' wa by rw [HTK.out, if_neg HQC.out]; exact HId.out.app HGC.out happ htch)
            clear happ htch
            go_roundw
            case rel =>
              obtain ⟨aa, cc, hh⟩ := PRow.len HI2.out.row
              exact ⟨j + 1, by omega, by go_num, ⟨aa, _, cc, hh⟩, HI2⟩
            case measure => simp [intOfV]; omega
        · have HJN := Lib.hid (show j = nm by omega)
          have dj : decide ((j : Int) < (nm : Int)) = false := decide_eq_false (by omega)
          go_wp2_with (first | (refine wpList_bs_put rfl (.tmp 76) rfl (c, f) rfl ?_; intro wc gc hcl hgc; have HCC := Lib.hid hcl; have HGC := Lib.hid hgc; have HRC := Lib.hid (PRow.grow HRI.out hgc); clear hcl hgc) | (at_builtin; refine wpList_append_row rfl (.tmp 75) (.tmp 77) 23 rfl 30 ip (.agg #[.int .i64 0, .int .u32 0]) 2 16 Try.underlying23 HIP.out hp0 hp1 hp2 rfl (by omega) (.slice a9 n9 c9) ((keepP (m.take j) c).map pcell) rfl HRC.out ⟨gc, 0, none⟩ 1 (pcell (c, f)) rfl rfl HCC.out (pcell_one _) HLk.out (by omega) ?_; intro v' wa happ htch))
          have HI2 := Lib.hid (show LInv wb (insP m (c, f)) v' wa by
            have h1 := HI.out.app HGC.out happ htch
            rw [HJN.out, HNM.out, List.take_length] at h1
            exact h1)
          clear happ htch x0 x1
          have HTf := Lib.hid (HTb.out.spare (Q := ownL v') HI2.out.grow (fun g hg => .inr ⟨HI2.out.vl g (ownL_mem.1 hg), Row.own_lt HI2.out.row (ownL_mem.1 hg)⟩))
          have HVf := Lib.hid (show ∀ g, v'.ownBlock = some g → w.heap.size ≤ g from fun g e => Nat.le_trans HTb.out.grow.size (HI2.out.vl g e))
          go_roundw
          case rel =>
            obtain ⟨aa, cc, hh⟩ := PRow.len HI2.out.row
            exact ⟨k + 1, insP m (c, f), t', by omega, by go_num, ⟨aa, _, cc, hh⟩, HTf, Lib.hid HI2.out.row, HG', HVf⟩
          case measure => simp [intOfV]; omega
    · obtain rfl : k = n := by omega
      obtain ⟨n1, rfl⟩ : ∃ n1 : Nat, n1 = k := ⟨_, rfl⟩
      go_wp2_with fail
      obtain ⟨s, did, rfl, hch, hrv, _⟩ := HG.out.ex
      have HCH := Lib.hid hch
      have HRV := Lib.hid hrv
      have HGO := Lib.hid HG.out.ok
      have HML2 := Lib.hid (show m.length ≤ 200 by have := HG.out.le; omega)
      clear hch hrv HG
      refine (HT.out.end_).mono ?_
      intro e w9 hp
      obtain ⟨rfl, hT, hS⟩ := hp
      have HT9 := Lib.hid (show Live w (ownL (.slice am nm cm)) B (1 + n1 + 1) seq (.c s) w9 from hT)
      have HM9 := Lib.hid (show PRow w9 (.slice am nm cm) m from hS.row HM.out (fun g e => ownL_mem.2 e))
      have hz0 : (endT (.o s noPS 1000 0 did)).1 = 0 := rfl
      rw [hz0]
      clear hT hS hz0 HT HM
      go_wp2_with fail
      refine (HT9.out.open_).mono ?_
      rintro e w' ⟨rfl, rfl⟩
      have ho : (TS.c s).isO = false := rfl
      rw [ho]
      clear ho
      go_wp2_with fail
      refine (HT9.out.changed (by omega)).mono ?_
      rintro e wA ⟨vk, rfl, hr, hg, _⟩
      obtain ⟨ks, hks⟩ : ∃ ks, ks = sortI (keysA s.ch) := ⟨_, rfl⟩
      have hkl : ks.length = nm := by rw [hks, sortI_length, keysA_length, HCH.out, List.length_map, HNM.out]
      have hr : IRow wA vk ks := by rw [hks]; exact hr
      obtain ⟨ak, ck, hvk⟩ := IRow.len hr
      rw [hkl] at hvk
      subst hvk
      have HKS := Lib.hid hks
      have HKN := Lib.hid hkl
      have HKA := Lib.hid hr
      have HTA := Lib.hid (HT9.out.later hg)
      have HMA := Lib.hid (HM9.out.grow hg)
      clear hr hg hks hkl HT9 HM9
      go_wp2_with fail
      refine (HTA.out.trans (by omega)).mono ?_
      rintro e wB ⟨vc, vr, rfl, hc, hrr, hg, _, _⟩
      have hcl : (TS.c s).now.copies.length = nm := by
        show s.copies.length = nm
        unfold PS.copies
        rw [List.length_map, ← HKS.out, HKN.out]
      obtain ⟨ac, cc, hvl⟩ := CRow.len hc
      rw [hcl] at hvl
      subst hvl
      have hrl : (TS.c s).now.rv = [] := HRV.out
      rw [hrl] at hrr
      obtain ⟨ar, cr, hvr⟩ := IRow.len hrr
      rw [List.length_nil] at hvr
      subst hvr
      have HCB0 := Lib.hid (show CRow wB (.slice ac nm cc) s.copies from hc)
      have HTB0 := Lib.hid (HTA.out.later hg)
      have HMB0 := Lib.hid (HMA.out.grow hg)
      have HKB0 := Lib.hid (HKA.out.grow hg)
      clear hc hrr hg hcl hrl HTA HMA HKA
      have hob := heap_alloc_last wB (.cells #[.int .u32 0, .slice none 0 0, .slice none 0 0] 41)
      have z0 := cell_at hob 0
      have z1 := cell_at hob 1
      have z2 := cell_at hob 2
      have q0 := frozen_at hob 0
      have q1 := frozen_at hob 1
      have q2 := frozen_at hob 2
      clear hob
      simp only [List.getElem?_toArray, List.getElem?_cons_zero, List.getElem?_cons_succ] at z0 z1 z2
      go_upto_region 24 with (fail)
      have hga := Grow.alloc wB (.cells #[.int .u32 (seq : Int), .slice ac nm cc, .slice ar 0 cr] 41)
      have HTB := Lib.hid (HTB0.out.later hga)
      have HCB := Lib.hid (HCB0.out.grow hga)
      have HMB := Lib.hid (HMB0.out.grow hga)
      have HKB := Lib.hid (HKB0.out.grow hga)
      have HOB := Lib.hid (heap_alloc_last wB (.cells #[.int .u32 (seq : Int), .slice ac nm cc, .slice ar 0 cr] 41))
      clear hga
      generalize (wB.alloc (.cells #[.int .u32 (seq : Int), .slice ac nm cc, .slice ar 0 cr] 41)) = WB at *
      obtain ⟨TZ, hTZ⟩ : ∃ g, g = wB.heap.size := ⟨_, rfl⟩
      rw [← hTZ] at HOB ⊢
      clear hTZ z0 z1 z2 q0 q1 q2 HTB0 HCB0 HMB0 HKB0
      have p0 : WB.cell? ⟨TZ, 0, none⟩ = some (.int .u32 (seq : Int)) := cell_at HOB.out 0
      have p1 : WB.cell? ⟨TZ, 1, none⟩ = some (.slice ac nm cc) := cell_at HOB.out 1
      have p2 : WB.cell? ⟨TZ, 2, none⟩ = some (.slice ar 0 cr) := cell_at HOB.out 2
      have HTZl := Lib.hid (Array.getElem?_eq_some_iff.1 HOB.out).1
      have HTZc := Lib.hid p1
      have HND := Lib.hid (show (keysA s.ch).Nodup by obtain ⟨a, hv⟩ := HTB.out.tv; exact hv.p.ch.nodup)
      have HIO := Lib.hid (show ∀ z ∈ keysA s.ch, IntOk z by
        obtain ⟨a, hv⟩ := HTB.out.tv
        obtain ⟨D, _, hA, _⟩ := hv.p.ch
        exact fun z hz => hA.ok hz)
      have HBL := Lib.hid (show ∀ z, ((lookA s.ch z).getD zeroB).length = 256 by
        obtain ⟨a, hv⟩ := HTB.out.tv
        exact fun z => hv.p.ch.blk z)
      have HKP := Lib.hid (show ks.Pairwise (· < ·) by rw [HKS.out]; exact pair_lt_of _ (sortI_sorted _) ((sortI_perm _).nodup_iff.2 HND.out))
      go_wp2_with fail
      clear p0 p1 p2
      go_loopw [13] (fun t13 wr => ∃ (i : Nat), i ≤ nm ∧ t13 = .int .i64 (i : Int) ∧ Hid (Grow WB wr)) (fun t13 _ => nm - (intOfV t13).toNat)
      case atStart => exact ⟨0, by omega, rfl, Lib.hid (Grow.refl _)⟩
      case round =>
        obtain ⟨i, hi, rfl, HW⟩ := hrel
        have hnm : nm ≤ 200 := by have := HNM.out; have := HML2.out; omega
        by_cases hlt : i < nm
        · obtain ⟨⟨pb, pf⟩, hp⟩ : ∃ p, m[i]? = some p := ⟨m[i]'(by have := HNM.out; omega), by simp⟩
          obtain ⟨z, hz1⟩ : ∃ z, ks[i]? = some z := ⟨ks[i]'(by have := HKN.out; omega), by simp⟩
          have hlk := gets_look HCH.out HND.out hp
          have hok := HGO.out _ (List.mem_of_getElem? hp)
          obtain ⟨gm, hgm, hml, hm0, hm1⟩ := PRow.at_ HMB.out hp
          cases hgm
          obtain ⟨gk, ck', hgk, hkl⟩ := IRow.open_ HKB.out (by have := HKN.out; omega)
          rw [HKN.out] at hgk
          cases hgk
          have hkc := IRow.cell HKB.out hz1
          have hzm : z ∈ keysA s.ch := (sortI_perm _).mem_iff.1 (HKS.out ▸ List.mem_of_getElem? hz1)
          have hcp : s.copies[i]? = some (z, (lookA s.ch z).getD zeroB) := by
            unfold PS.copies
            rw [List.getElem?_map, ← HKS.out, hz1]; rfl
          obtain ⟨gc, hgc, hcl, hcr⟩ := CRow.at_ HCB.out hcp
          cases hgc
          obtain ⟨X1, hX1⟩ : ∃ X, fillB pf = X := ⟨_, rfl⟩
          obtain ⟨X2, hX2⟩ : ∃ X, (lookA s.ch z).getD zeroB = X := ⟨_, rfl⟩
          rw [hX2] at hcr
          have HFX := Lib.hid hX1
          have HXl1 := Lib.hid (show X1.length = 256 from hX1 ▸ fillB_length pf)
          have HXl2 := Lib.hid (show X2.length = 256 from hX2 ▸ HBL.out z)
          have VX1 := Lib.hid (show (lookA (TS.c s).now.ch pb).getD zeroB = X1 by show (lookA s.ch pb).getD zeroB = X1; rw [hlk.1, ← hX1]; rfl)
          have VD1 := Lib.hid (show decide (pb ∈ keysA (TS.c s).now.ch) = true from decide_eq_true hlk.2)
          have VX2 := Lib.hid (show (lookA (TS.c s).now.ch z).getD zeroB = X2 from hX2)
          have VD2 := Lib.hid (show decide (z ∈ keysA (TS.c s).now.ch) = true from decide_eq_true hzm)
          have HPF := Lib.hid (show pf < 4294967296 from hok.1)
          have HPB := Lib.hid (show IntOk pb from HIO.out pb hlk.2)
          have HZK := Lib.hid (HIO.out z hzm)
          have HML := Lib.hid hml
          have HMC := Lib.hid hm1
          have HKL := Lib.hid hkl
          have HKC := Lib.hid hkc
          have HCL := Lib.hid hcl
          have HCC := Lib.hid (show WB.cell? ⟨gc, i * 257, none⟩ = some (.int .i64 z) from by have := hcr.1 0 (.int .i64 z) rfl; simpa using this)
          have HCR := Lib.hid (show WB.rangeAt gc (i * 257 + 1) (bc X2) from fun j v hv => by
            have := hcr.1 (j + 1) v (by show (Value.int .i64 z :: bc X2)[j + 1]? = some v; simpa using hv)
            rw [show i * 257 + 1 + j = i * 257 + (j + 1) by omega]; exact this)
          have HZI := Lib.hid hz1
          have HSz1 := Lib.hid (show (Try.prog.info? 33).map (·.size) = some (bc X1).toArray.size by rw [List.size_toArray, bc_length, HXl1.out]; exact size32)
          have HSo1 := Lib.hid (HZS.out.trans (show 256 = (bc X1).toArray.size by rw [List.size_toArray, bc_length, HXl1.out]))
          have HO1 := Lib.hid (show (bc X1).toArray.all (·.oneCell') = true from all_oneCell_toArray (bc_one _))
          have HSz2 := Lib.hid (show (Try.prog.info? 33).map (·.size) = some (bc X2).toArray.size by rw [List.size_toArray, bc_length, HXl2.out]; exact size32)
          have HSo2 := Lib.hid (HZS.out.trans (show 256 = (bc X2).toArray.size by rw [List.size_toArray, bc_length, HXl2.out]))
          have HO2 := Lib.hid (show (bc X2).toArray.all (·.oneCell') = true from all_oneCell_toArray (bc_one _))
          have HSzL := Lib.hid (show (Try.prog.info? 33).map (·.size) = some (bc X2).length by rw [bc_length, HXl2.out]; exact size32)
          have y0 : wr.cell? ⟨gm, i * 2, none⟩ = some (.int .i64 pb) := (HW.out.cell (p := ⟨gm, i * 2, none⟩) hml).trans hm0
          have b0 : (0 : Int) ≤ (i : Int) := by omega
          have b1 : (i : Int) < (nm : Int) := by omega
          have HT5 := Lib.hid (HTB.out.later HW.out)
          clear hp hz1 hlk hok hml hm0 hm1 hkl hkc hzm hcp hcl hcr hX1 hX2
          go_wp2_with fail
          refine (HT5.out.get HPB.out).mono ?_
          rintro e w5 ⟨rfl, hg⟩
          rw [VX1.out, VD1.out]
          have HG5 := Lib.hid (Grow.trans HW.out hg)
          clear hg y0
          go_upto_region 30 with (first | (refine wpList_store_row rfl 33 _ _ rfl w5.heap.size (bc X1).toArray rfl rfl 33 Z (heap_alloc_last _ _) HSz1.out HSo1.out HO1.out ?_))
          have HG6 := Lib.hid (Grow.trans HG5.out (below_setRow (Below.alloc (Below.refl _ w5) (Nat.le_refl _) (.cells Z 33)) (Nat.le_refl _) (bc X1).toArray))
          have HX6 := Lib.hid (show ((w5.alloc (.cells Z 33)).setRow w5.heap.size (bc X1).toArray).heap[w5.heap.size]? = some (.cells (bc X1).toArray 33) from setRow_heap _ _ _ _ _ _ (heap_alloc_last _ _))
          generalize (w5.alloc (.cells Z 33)).setRow w5.heap.size (bc X1).toArray = W6 at *
          clear HT5 HG5
          by_cases i0 : i = 0
          · refine gets_reg30z gm cm gk ck gc cc TZ w5.heap.size nm i pf X1 z W6 (Lib.hid (by omega)) (Lib.hid (by omega)) (Lib.hid ⟨(Array.getElem?_eq_some_iff.1 HX6.out).1, HX6.out⟩) HSz1 (Lib.hid ⟨Nat.lt_of_lt_of_le HML.out HG6.out.size, (HG6.out.cell (p := ⟨gm, i * 2 + 1, none⟩) HML.out).trans HMC.out⟩) HPF.out HFX (Lib.hid fun w => by rw [neqBlk X1 X1 HXl1.out HXl1.out w, decide_eq_true rfl]; rfl) (Lib.hid ⟨Nat.lt_of_lt_of_le HTZl.out HG6.out.size, (HG6.out.cell (p := ⟨TZ, 1, none⟩) HTZl.out).trans HTZc.out⟩) (Lib.hid ⟨Nat.lt_of_lt_of_le HCL.out HG6.out.size, (HG6.out.cell (p := ⟨gc, i * 257, none⟩) HCL.out).trans HCC.out⟩) (Lib.hid ⟨Nat.lt_of_lt_of_le HKL.out HG6.out.size, (HG6.out.cell (p := ⟨gk, i, none⟩) HKL.out).trans HKC.out⟩) (Lib.hid (decide_eq_false (by omega))) _ _ _ _ _ _ _ _ _ _ _ _ _ _ _ _ _ _ _ _ _ _ _ _ _ _ _ _ _ _ _ _ _ _ _ _ _ _ _ _ _ _ _ _ _ _ _ _ _ _ _ _ _ _ _ _ _ _ _ _ _ _ _ _ _ _ _ _ _ _ _ _ _ _ _ _ _ _ _ _ _ _ _ _ _ _ _ _ _ _ _ _ _ _ _ _ _ _ _ _ _ _ _ _ _ _ _ _ _ _ _ _ _ _ _ _ _ _ _ _ _ _ _ _ _ _ _ _ _ _ _ _ _ _ _ _ _ _ _ _ _ _ _ _ _ _ _ _ _ _ _ _ _ _ _ _ _ _ _ _ _ _ _ _ _ _ _ _ _ _ _ _ _ _ _ _ _ _ _ _ _ _ _ _ _ _ _ _ (Lib.hid ?hk30z)
            intro u131 u132 u133 u134 u135 u136 u137 u138 u139 u140 u141 u142 u143 u144 u145 u146 u147 u148 u149 u150 u151 u152 u153 u154 u155 u156 u157 u158 u159 u160 u161 u162 u163 u164 u165 u166 u167 u168 u169 u170 wz hzr
            clear i0
            have HZ0 := Lib.hid (Grow.trans HG6.out hzr.grow)
            clear hzr
            have y1 : wz.cell? ⟨gk, i, none⟩ = some (.int .i64 z) := (HZ0.out.cell (p := ⟨gk, i, none⟩) HKL.out).trans HKC.out
            have HT7 := Lib.hid (HTB.out.later HZ0.out)
            go_wp2_with fail
            refine (HT7.out.get HZK.out).mono ?_
            rintro e w7 ⟨rfl, hg⟩
            rw [VX2.out, VD2.out]
            have HG7 := Lib.hid (Grow.trans HZ0.out hg)
            clear hg y1
            go_upto_region 33 with (first | (refine wpList_store_row rfl 33 _ _ rfl w7.heap.size (bc X2).toArray rfl rfl 33 Z (heap_alloc_last _ _) HSz2.out HSo2.out HO2.out ?_))
            have HG8 := Lib.hid (Grow.trans HG7.out (below_setRow (Below.alloc (Below.refl _ w7) (Nat.le_refl _) (.cells Z 33)) (Nat.le_refl _) (bc X2).toArray))
            have HX8 := Lib.hid (show ((w7.alloc (.cells Z 33)).setRow w7.heap.size (bc X2).toArray).heap[w7.heap.size]? = some (.cells (bc X2).toArray 33) from setRow_heap _ _ _ _ _ _ (heap_alloc_last _ _))
            generalize (w7.alloc (.cells Z 33)).setRow w7.heap.size (bc X2).toArray = W8 at *
            refine gets_reg33 gc cc TZ w7.heap.size nm i X2 W8 (Lib.hid (by omega)) (Lib.hid (by omega)) (Lib.hid ⟨(Array.getElem?_eq_some_iff.1 HX8.out).1, HX8.out⟩) HSz2 HSzL (Lib.hid fun w => by rw [neqBlk X2 X2 HXl2.out HXl2.out w, decide_eq_true rfl]; rfl) (Lib.hid ⟨Nat.lt_of_lt_of_le HTZl.out HG8.out.size, (HG8.out.cell (p := ⟨TZ, 1, none⟩) HTZl.out).trans HTZc.out⟩) (Lib.hid ⟨Nat.lt_of_lt_of_le HCL.out HG8.out.size, range_touch HCR.out (Touch.of_below (S := []) HG8.out) HCL.out (by simp)⟩) _ _ _ _ _ _ _ _ _ _ _ _ _ _ _ _ _ _ _ _ _ _ _ _ _ _ _ _ _ _ _ _ _ _ _ _ _ _ _ _ _ _ _ _ _ _ _ _ _ _ _ _ _ _ _ _ _ _ _ _ _ _ _ _ _ _ _ _ _ _ _ _ _ _ _ _ _ _ _ _ _ _ _ _ _ _ _ _ _ _ _ _ _ _ _ _ _ _ _ _ _ _ _ _ _ _ _ _ _ _ _ _ _ _ _ _ _ _ _ _ _ _ _ _ _ _ _ _ _ _ _ _ _ _ _ _ _ _ _ _ _ _ _ _ _ _ _ _ _ _ _ _ _ _ _ _ _ _ _ _ _ _ _ _ _ _ _ _ _ _ _ _ _ _ _ _ _ _ _ _ _ _ _ _ _ _ _ _ _ _ (Lib.hid ?hk331)
            intro u181 u182 u183 u184 u185 u186 u187 u188 u189 u190 u191 wy hyr
            have HY0 := Lib.hid (Grow.trans HG8.out hyr.grow)
            clear hyr
            go_wp2_with fail
            go_roundw
            case rel => exact ⟨i + 1, by omega, by go_num, HY0⟩
            case measure => simp [intOfV]; omega
          · obtain ⟨h, hh⟩ : ∃ h, i = h + 1 := ⟨i - 1, by omega⟩
            obtain ⟨z', hz'⟩ : ∃ z', ks[h]? = some z' := ⟨ks[h]'(by have := HKN.out; omega), by simp⟩
            have hzz : z' < z := by
              obtain ⟨e1, e2⟩ := List.getElem?_eq_some_iff.1 hz'
              obtain ⟨e3, e4⟩ := List.getElem?_eq_some_iff.1 HZI.out
              have := List.pairwise_iff_getElem.1 HKP.out h i e1 e3 (by omega)
              rw [e2, e4] at this; exact this
            have HZ2 := Lib.hid (IRow.cell HKB.out hz')
            have HHW := Lib.hid (show IntKind.i64.wrap (h : Int) = (h : Int) by rw [IntKind.wrap_i64]; have := HNM.out; have := HML2.out; omega)
            have HZZ := Lib.hid (show decide (z ≤ z') = false from decide_eq_false (by omega))
            have HHI := Lib.hid hh
            clear hh hz' hzz
            refine gets_reg30 gm cm gk ck gc cc TZ w5.heap.size nm i pf X1 z h z' W6 (Lib.hid (by omega)) (Lib.hid (by omega)) (Lib.hid ⟨(Array.getElem?_eq_some_iff.1 HX6.out).1, HX6.out⟩) HSz1 (Lib.hid ⟨Nat.lt_of_lt_of_le HML.out HG6.out.size, (HG6.out.cell (p := ⟨gm, i * 2 + 1, none⟩) HML.out).trans HMC.out⟩) HPF.out HFX (Lib.hid fun w => by rw [neqBlk X1 X1 HXl1.out HXl1.out w, decide_eq_true rfl]; rfl) (Lib.hid ⟨Nat.lt_of_lt_of_le HTZl.out HG6.out.size, (HG6.out.cell (p := ⟨TZ, 1, none⟩) HTZl.out).trans HTZc.out⟩) (Lib.hid ⟨Nat.lt_of_lt_of_le HCL.out HG6.out.size, (HG6.out.cell (p := ⟨gc, i * 257, none⟩) HCL.out).trans HCC.out⟩) (Lib.hid ⟨Nat.lt_of_lt_of_le HKL.out HG6.out.size, (HG6.out.cell (p := ⟨gk, i, none⟩) HKL.out).trans HKC.out⟩) (Lib.hid (decide_eq_true (by omega))) (Lib.hid (by have := HHI.out; omega)) HHW (Lib.hid (by omega)) (Lib.hid (by have := HHI.out; omega)) (Lib.hid ⟨Nat.lt_of_lt_of_le HKL.out HG6.out.size, (HG6.out.cell (p := ⟨gk, h, none⟩) HKL.out).trans HZ2.out⟩) HZZ _ _ _ _ _ _ _ _ _ _ _ _ _ _ _ _ _ _ _ _ _ _ _ _ _ _ _ _ _ _ _ _ _ _ _ _ _ _ _ _ _ _ _ _ _ _ _ _ _ _ _ _ _ _ _ _ _ _ _ _ _ _ _ _ _ _ _ _ _ _ _ _ _ _ _ _ _ _ _ _ _ _ _ _ _ _ _ _ _ _ _ _ _ _ _ _ _ _ _ _ _ _ _ _ _ _ _ _ _ _ _ _ _ _ _ _ _ _ _ _ _ _ _ _ _ _ _ _ _ _ _ _ _ _ _ _ _ _ _ _ _ _ _ _ _ _ _ _ _ _ _ _ _ _ _ _ _ _ _ _ _ _ _ _ _ _ _ _ _ _ _ _ _ _ _ _ _ _ _ _ _ _ _ _ _ _ _ _ (Lib.hid ?hk30)
            intro u131 u132 u133 u134 u135 u136 u137 u138 u139 u140 u141 u142 u143 u144 u145 u146 u147 u148 u149 u150 u151 u152 u153 u154 u155 u156 u157 u158 u159 u160 u161 u162 u163 u164 u165 u166 u167 u168 u169 u170 wz hzr
            clear i0
            have HZ0 := Lib.hid (Grow.trans HG6.out hzr.grow)
            clear hzr
            have y1 : wz.cell? ⟨gk, i, none⟩ = some (.int .i64 z) := (HZ0.out.cell (p := ⟨gk, i, none⟩) HKL.out).trans HKC.out
            have HT7 := Lib.hid (HTB.out.later HZ0.out)
            go_wp2_with fail
            refine (HT7.out.get HZK.out).mono ?_
            rintro e w7 ⟨rfl, hg⟩
            rw [VX2.out, VD2.out]
            have HG7 := Lib.hid (Grow.trans HZ0.out hg)
            clear hg y1
            go_upto_region 33 with (first | (refine wpList_store_row rfl 33 _ _ rfl w7.heap.size (bc X2).toArray rfl rfl 33 Z (heap_alloc_last _ _) HSz2.out HSo2.out HO2.out ?_))
            have HG8 := Lib.hid (Grow.trans HG7.out (below_setRow (Below.alloc (Below.refl _ w7) (Nat.le_refl _) (.cells Z 33)) (Nat.le_refl _) (bc X2).toArray))
            have HX8 := Lib.hid (show ((w7.alloc (.cells Z 33)).setRow w7.heap.size (bc X2).toArray).heap[w7.heap.size]? = some (.cells (bc X2).toArray 33) from setRow_heap _ _ _ _ _ _ (heap_alloc_last _ _))
            generalize (w7.alloc (.cells Z 33)).setRow w7.heap.size (bc X2).toArray = W8 at *
            refine gets_reg33 gc cc TZ w7.heap.size nm i X2 W8 (Lib.hid (by omega)) (Lib.hid (by omega)) (Lib.hid ⟨(Array.getElem?_eq_some_iff.1 HX8.out).1, HX8.out⟩) HSz2 HSzL (Lib.hid fun w => by rw [neqBlk X2 X2 HXl2.out HXl2.out w, decide_eq_true rfl]; rfl) (Lib.hid ⟨Nat.lt_of_lt_of_le HTZl.out HG8.out.size, (HG8.out.cell (p := ⟨TZ, 1, none⟩) HTZl.out).trans HTZc.out⟩) (Lib.hid ⟨Nat.lt_of_lt_of_le HCL.out HG8.out.size, range_touch HCR.out (Touch.of_below (S := []) HG8.out) HCL.out (by simp)⟩) _ _ _ _ _ _ _ _ _ _ _ _ _ _ _ _ _ _ _ _ _ _ _ _ _ _ _ _ _ _ _ _ _ _ _ _ _ _ _ _ _ _ _ _ _ _ _ _ _ _ _ _ _ _ _ _ _ _ _ _ _ _ _ _ _ _ _ _ _ _ _ _ _ _ _ _ _ _ _ _ _ _ _ _ _ _ _ _ _ _ _ _ _ _ _ _ _ _ _ _ _ _ _ _ _ _ _ _ _ _ _ _ _ _ _ _ _ _ _ _ _ _ _ _ _ _ _ _ _ _ _ _ _ _ _ _ _ _ _ _ _ _ _ _ _ _ _ _ _ _ _ _ _ _ _ _ _ _ _ _ _ _ _ _ _ _ _ _ _ _ _ _ _ _ _ _ _ _ _ _ _ _ _ _ _ _ _ _ _ _ (Lib.hid ?hk332)
            intro u181 u182 u183 u184 u185 u186 u187 u188 u189 u190 u191 wy hyr
            have HY0 := Lib.hid (Grow.trans HG8.out hyr.grow)
            clear hyr
            go_wp2_with fail
            go_roundw
            case rel => exact ⟨i + 1, by omega, by go_num, HY0⟩
            case measure => simp [intOfV]; omega
        · obtain rfl : i = nm := by omega
          have HGf := Lib.hid (Grow.trans HTB.out.grow HW.out)
          go_wp2_with fail
          go_ret
          exact ⟨rfl, HGf.out⟩
#print axioms gets_walk
end Go.Proofs.Ytnogajnoghjmhaa
