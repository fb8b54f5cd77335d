/- The law CommitSteps: the walk. -/
import Derived.Test.YtieknecbheeekaaK14
set_option linter.unusedVariables false
set_option linter.unusedSimpArgs false
namespace Go.Proofs.Ytieknecbheeekaa
open Go.RowKit Go.Maps

theorem ClonePost.row {l : List Blk} {w : World} {e : Ending} {w' : World} (h : ClonePost l w e w') : ∃ v, e = .returned v ∧ Row w' 44 256 v (l.map bc) ∧ Grow w w' := by
  obtain ⟨g, cap, he, hr, _, hg⟩ := h
  exact ⟨_, he, hr, hg⟩
theorem new_fair (n : Nat) : Fair 0 (newD n) := ⟨rfl, fun p h => (by cases h), Nat.le_refl _, ⟨Int.le_refl _, Int.le_refl _⟩, ⟨Int.le_refl _, by show (0 : Int) ≤ _; omega⟩⟩
/-- both caches are made -/
theorem LI.start {w0 w : World} {C B Q R : Nat} {U T : List Nat} {n : Nat} (hc : IsCache w C B U 0 (newC (newD n))) (hr : IsRef w R T (newD n)) (hq : w.heap[Q]? = some (.cells #[.pointer (some ⟨R, 0, none⟩), .slice none 0 0, .slice none 0 0] 38)) (hqT : Q ∉ T) (hUT : ∀ i ∈ U, i ∉ Q :: T) (hlo : ∀ i ∈ U ++ (Q :: T), w0.heap.size ≤ i) (hg : Grow w0 w) :
    LI w0 C B Q R U (Q :: T) 0 (newC (newD n)) (newC (newD n)) [] w where
  cache := hc
  rc := ⟨T, .slice none 0 0, by simp [Value.ownBlock], {
    obj := hq
    row := ⟨by simp, ⟨by simp, .inl ⟨rfl, rfl⟩⟩⟩
    ref := hr
    qT := hqT
    bw := fun k e => by cases e }⟩
  is := RcIs.start
  apart := hUT
  fair := new_fair n
  fairt := new_fair n
  len := Nat.le_refl _
  lo := hlo
  grow := hg
/-- the power is set at both -/
theorem LI.disk {w0 : World} {C B Q R : Nat} {U V : List Nat} {k : Nat} {s t : CS} {L : List HE} {w : World} (h : LI w0 C B Q R U V k s t L w) : ∃ S, IsDisk w B S s.d := by
  obtain ⟨bm, bp, S, _, hp⟩ := h.cache
  exact ⟨S, hp.disk⟩
theorem LI.power {w0 : World} {C B Q R : Nat} {U V : List Nat} {k : Nat} {s t : CS} {L : List HE} {w : World} (h : LI w0 C B Q R U V k s t L w) (a : Int) (ha : IntOk a) :
    Calls Try.prog 10 #[.pointer (some ⟨B, 0, none⟩), .int .i64 a] w fun e w' => (∃ u, e = .returned u) ∧ ∃ U', LI w0 C B Q R U' V (k + 1) { s with d := s.d.powered a } t L w' := by
  obtain ⟨bm, bp, S, hU, hp⟩ := h.cache
  refine (power_any hp.disk a).mono ?_
  rintro e w' ⟨he, hd, ht⟩
  have htS : Touch S w w' := ht.mono (fun i hi => .inl (by rw [List.mem_singleton.1 hi]; exact hp.disk.inB))
  refine ⟨he, _, h.cacheTo (IsCache.diskTo hp hd htS (fun i hi => .inl hi) rfl).more (htS.mono (fun i hi => .inl (by rw [hU]; simp [hi]))) (fun i hi => .inl (by rw [hU]; exact hi)) (h.fair.powered a ha.2).more⟩
theorem LI.rpower {w0 : World} {C B Q R : Nat} {U V : List Nat} {k : Nat} {s t : CS} {L : List HE} {w : World} (h : LI w0 C B Q R U V k s t L w) (a : Int) (ha : IntOk a) :
    Calls Try.prog 11 #[.pointer (some ⟨R, 0, none⟩), .int .i64 a] w fun e w' => (∃ u, e = .returned u) ∧ ∃ V' L', LI w0 C B Q R U V' (k + 1) s { t with d := t.d.powered a } L' w' := by
  obtain ⟨T, vl, hV, hp⟩ := h.rc
  refine (rpower_ok hp.ref a).mono ?_
  rintro e w' ⟨he, hr, ht⟩
  have hRT : R ∈ T := by obtain ⟨g, c, vw, h1⟩ := hp.ref; exact h1.inR
  have htT : Touch T w w' := ht.mono (fun i hi => .inl (by rw [List.mem_singleton.1 hi]; exact hRT))
  refine ⟨he, h.rcTo (t' := { t with d := t.d.powered a }) (n := L.length) ?_ (by have := h.len; omega) (h.fairt.powered a ha.2).more⟩
  rw [hV]
  exact RcPost.refTo hp h.is hr htT (fun i hi => .inl hi)
set_option maxRecDepth 100000 in
set_option maxHeartbeats 16000000 in
theorem steps_walk {w : World} {v va : Value} {l : List PP} {la : List AT} (h : FillsIn w v l) (hl : l.length ≤ 9223372036854775807) (ha : ActsIn w va la) (hal : la.length ≤ 9223372036854775807) (n pw : Int) (hpw : IntOk pw) : Calls Try.prog 3 #[.int .i64 n, v, va, .int .i64 pw] w fun e w' => e = .returned (.bool true) ∧ Below w.heap.size w w' := by
  have HF := Lib.hid h
  have HA := Lib.hid ha
  have HPW := Lib.hid hpw
  obtain ⟨a, cap, hv, _⟩ := h
  obtain ⟨aa, capa, hva, _⟩ := ha
  obtain ⟨N, hN⟩ : ∃ N, N = l.length := ⟨_, rfl⟩
  obtain ⟨K, hK⟩ : ∃ K, K = la.length := ⟨_, rfl⟩
  rw [← hN] at hv hl
  rw [← hK] at hva hal
  have HN := Lib.hid hN
  have HK := Lib.hid hK
  subst hv hva
  clear hN hK hpw
  by_cases c1 : n < 1
  · have d1 : decide (n < 1) = true := by simpa using c1
    go_enter Try.func3, Try.ntmps3
    go_wp2_with fail
    go_ret
    exact ⟨rfl, Grow.refl _⟩
  have d1 : decide (n < 1) = false := by simpa using c1
  by_cases c2 : 200 < n
  · have d2 : decide (200 < n) = true := by simpa using c2
    go_enter Try.func3, Try.ntmps3
    go_wp2_with fail
    go_ret
    exact ⟨rfl, Grow.refl _⟩
  have d2 : decide (200 < n) = false := by simpa using c2
  by_cases c3 : 100 < N
  · have d3 : decide ((100 : Int) < (N : Int)) = true := by simp; omega
    go_enter Try.func3, Try.ntmps3
    go_wp2_with fail
    go_ret
    exact ⟨rfl, Grow.refl _⟩
  have d3 : decide ((100 : Int) < (N : Int)) = false := by simp; omega
  by_cases c4 : 100 < K
  · have d4 : decide ((100 : Int) < (K : Int)) = true := by simp; omega
    go_enter Try.func3, Try.ntmps3
    go_wp2_with fail
    go_ret
    exact ⟨rfl, Grow.refl _⟩
  have d4 : decide ((100 : Int) < (K : Int)) = false := by simp; omega
  obtain ⟨m, rfl⟩ : ∃ m : Nat, n = (m : Int) := ⟨n.toNat, by omega⟩
  have HM1 := Lib.hid (show 1 ≤ m by omega)
  have HM2 := Lib.hid (show m ≤ 2048 by omega)
  go_enter Try.func3, Try.ntmps3
  go_wp2_with fail
  refine (new_ok m HM1.out HM2.out w).mono ?_
  intro e w1 hpost
  obtain ⟨B, S, he, h1, h2, h3⟩ := hpost
  subst he
  have HD := Lib.hid h1
  have HG1 := Lib.hid h2
  have HS := Lib.hid h3
  clear h1 h2 h3 c1 c2 d1 d2 d3 d4
  go_wp2_with fail
  refine (rnew_ok m HM1.out HM2.out w1).mono ?_
  intro e w2 hpost
  obtain ⟨R, T, he, h1, h2, h3⟩ := hpost
  subst he
  have HR := Lib.hid (show IsRef w2 R T (newD m) from h1)
  have HG2 := Lib.hid (Grow.trans HG1.out h2)
  have HT := Lib.hid h3
  have HD2 := Lib.hid (HD.out.kept (Touch.of_below (S := []) h2) (by simp))
  have HSl := Lib.hid (show ∀ i ∈ S, i < w1.heap.size from HD.out.lt)
  have HTl := Lib.hid (show ∀ i ∈ T, i < w2.heap.size from h1.lt)
  have HZ2 := Lib.hid (show w.heap.size ≤ w1.heap.size ∧ w1.heap.size ≤ w2.heap.size from ⟨HG1.out.size, h2.size⟩)
  clear h1 h2 h3 HD
  go_wp2_with fail
  refine (cnew_ok HD2.out).mono ?_
  intro e w3 hpost
  obtain ⟨C, U, he, h1, h2, h3⟩ := hpost
  subst he
  have HC := Lib.hid h1
  have HU := Lib.hid (show ∀ i ∈ U, (w.heap.size ≤ i ∧ i ∉ T) ∧ i < w3.heap.size from fun i hi => ⟨by
    have hz := HZ2.out
    rcases h3 i hi with h4 | h4
    · exact ⟨HS.out i h4, fun hm => by have := HSl.out i h4; have := HT.out i hm; omega⟩
    · exact ⟨by omega, fun hm => by have := HTl.out i hm; omega⟩, h1.lt i hi⟩)
  have HR3 := Lib.hid (HR.out.kept (Touch.of_below (S := []) h2) (by simp))
  have HG3 := Lib.hid (Grow.trans HG2.out h2)
  have HZ3 := Lib.hid h2.size
  clear h1 h2 h3 HR HD2
  go_upto_region 11 with (fail)
  have hob := heap_alloc_last w3 (.cells #[.pointer (some ⟨R, 0, none⟩), .slice none 0 0, .slice none 0 0] 38)
  have HLI := Lib.hid (show LI w C B w3.heap.size R U (w3.heap.size :: T) 0 (newC (newD m)) (newC (newD m)) [] (w3.alloc (.cells #[.pointer (some ⟨R, 0, none⟩), .slice none 0 0, .slice none 0 0] 38)) from
    LI.start (HC.out.grow (Grow.alloc _ _)) (HR3.out.kept (Touch.of_below (S := []) (Grow.alloc w3 _)) (by simp)) hob (fun hm => by have := HTl.out _ hm; have := HZ3.out; omega)
      (fun i hi hm => by
        rcases List.mem_cons.1 hm with h4 | h4
        · have := (HU.out i hi).2; omega
        · exact (HU.out i hi).1.2 h4)
      (fun i hi => by
        simp only [List.mem_append, List.mem_cons] at hi
        rcases hi with hi | rfl | hi
        · exact (HU.out i hi).1.1
        · have := HZ2.out; have := HZ3.out; omega
        · have := HT.out i hi; have := HZ2.out; omega)
      (Grow.trans HG3.out (Grow.alloc _ _)))
  obtain ⟨Q, hQ⟩ : ∃ Q, Q = w3.heap.size := ⟨_, rfl⟩
  rw [← hQ] at HLI ⊢
  generalize w3.alloc (.cells #[.pointer (some ⟨R, 0, none⟩), .slice none 0 0, .slice none 0 0] 38) = w4 at *
  generalize Q :: T = V at *
  clear hob hQ HC HR3 HG3 HU HG2 HG1 HS HSl HT HTl HZ2 HZ3
  have HFW := Lib.hid (fun w' (hg : Grow w w') => HF.out.grow hg)
  go_wp2_with fail
  go_loopw [16] (fun t16 wr => ∃ (i : Nat) (V : List Nat) (s : CS) (Lst : List HE), t16 = .int .i64 (i : Int) ∧ i ≤ N ∧ Hid (LI w C B Q R U V (2 * i) s s Lst wr)) (fun t16 _ => N - (intOf t16).toNat)
  case atStart => exact ⟨0, V, _, _, rfl, by omega, HLI⟩
  case round =>
    obtain ⟨i, V, s, Lst, rfl, hi, HI⟩ := hrel
    by_cases hlt : i < N
    · obtain ⟨p, hp⟩ : ∃ p, l[i]? = some p := ⟨l[i]'(by rw [← HN.out]; exact hlt), by simp⟩
      obtain ⟨a', cap', hv', hel⟩ := HF.out
      rw [← HN.out] at hv'
      cases hv'
      obtain ⟨y, rfl, hyb, h0, h1, h2⟩ := hel i p hp
      have b0 : (0 : Int) ≤ (i : Int) := by omega
      have b1 : (i : Int) < (N : Int) := by omega
      have HPF := Lib.hid h2
      have HQ0 := Lib.hid (show ∀ wq, Grow w wq → wq.cell? (y.add (i * 2)) = some (.int .i64 p.1) ∧ wq.cell? ((y.add (i * 2)).add 1) = some (.int .u32 (p.2 : Int)) ∧ y.block < wq.heap.size from fun wq hg => ⟨(Below.cell hg (by rw [add_block]; exact hyb)).trans h0, (Below.cell hg (by rw [add_block, add_block]; exact hyb)).trans h1, Nat.lt_of_lt_of_le hyb hg.size⟩)
      have HP0 := Lib.hid (HQ0.out wr HI.out.grow).1
      have HP1 := Lib.hid (HQ0.out wr HI.out.grow).2.1
      have HPL := Lib.hid (HQ0.out wr HI.out.grow).2.2
      clear h0 h1 h2 hel hp hyb
      go_upto_region 14 with (fail)
      refine steps_reg14 y N cap i p.2 p.1 w C B Q R (2 * i) U V s s Lst wr (Lib.hid b0) (Lib.hid b1) HP0 HP1 HPL HPF.out (Lib.hid HI.out) (by omega) _ _ _ _ _ _ _ _ _ _ _ _ _ _ _ _ _ _ _ _ _ _ _ _ _ _ _ _ _ _ _ _ _ _ _ _ _ _ _ _ _ _ _ _ _ _ _ _ _ _ _ _ _ _ _ _ _ _ _ _ _ _ _ _ _ _ _ _ _ _ _ _ _ _ _ _ _ _ _ _ _ _ _ _ _ _ _ _ _ _ _ _ _ _ _ _ _ _ _ _ _ _ _ _ _ _ _ _ _ _ _ _ _ _ _ _ _ _ _ _ _ _ _ _ _ _ _ _ _ _ _ _ _ _ _ _ _ _ _ _ _ _ _ _ _ _ _ _ _ _ _ _ _ _ _ _ _ _ _ _ _ _ _ _ _ _ _ _ _ _ _ _ _ _ _ _ _ _ _ _ _ _ _ _ _ _ _ _ _ _ _ _ _ _ _ _ _ _ _ _ _ _ _ _ _ _ _ _ _ _ _ _ _ (Lib.hid ?hstepsreg141)
      intro u71 u72 u73 u74 u75 u76 u77 u78 u79 u80 u81 u82 u83 wa hRwa
      have HIa := Lib.hid hRwa
      have HP0a := Lib.hid (HQ0.out wa hRwa.grow).1
      have HP1a := Lib.hid (HQ0.out wa hRwa.grow).2.1
      have HPLa := Lib.hid (HQ0.out wa hRwa.grow).2.2
      clear hRwa
      go_upto_region 15 with (fail)
      refine steps_reg15 y N cap i p.2 p.1 w C B Q R (2 * i + 1) U V (s.wr p.1 (fillB p.2)) s Lst wa (Lib.hid b0) (Lib.hid b1) HP0a HP1a HPLa HPF.out HIa (by omega) _ _ _ _ _ _ _ _ _ _ _ _ _ _ _ _ _ _ _ _ _ _ _ _ _ _ _ _ _ _ _ _ _ _ _ _ _ _ _ _ _ _ _ _ _ _ _ _ _ _ _ _ _ _ _ _ _ _ _ _ _ _ _ _ _ _ _ _ _ _ _ _ _ _ _ _ _ _ _ _ _ _ _ _ _ _ _ _ _ _ _ _ _ _ _ _ _ _ _ _ _ _ _ _ _ _ _ _ _ _ _ _ _ _ _ _ _ _ _ _ _ _ _ _ _ _ _ _ _ _ _ _ _ _ _ _ _ _ _ _ _ _ _ _ _ _ _ _ _ _ _ _ _ _ _ _ _ _ _ _ _ _ _ _ _ _ _ _ _ _ _ _ _ _ _ _ _ _ _ _ _ _ _ _ _ _ _ _ _ _ _ _ _ _ _ _ _ _ _ _ _ _ _ _ _ _ _ _ _ _ _ _ _ (Lib.hid ?hstepsreg152)
      intro u84 u85 u86 u87 u88 u89 u90 u91 u92 u93 u94 u95 u96 wb hRwb
      obtain ⟨V', L', hI2⟩ := hRwb
      have HI2 := Lib.hid (show LI w C B Q R U V' (2 * (i + 1)) (s.wr p.1 (fillB p.2)) (s.wr p.1 (fillB p.2)) L' wb by rw [show 2 * (i + 1) = 2 * i + 1 + 1 by omega]; exact hI2)
      clear hI2
      go_wp2_with fail
      go_roundw
      case rel => exact ⟨i + 1, V', _, L', by go_num, by omega, HI2⟩
      case measure => simp [intOf]; omega
    · obtain rfl : N = i := by omega
      go_wp2_with fail
      refine (HI.out.power pw HPW.out).mono ?_
      intro e w5 hpost
      obtain ⟨⟨u5, he⟩, U5, h5⟩ := hpost
      subst he
      have H5 := Lib.hid h5
      clear h5
      go_wp2_with fail
      refine (H5.out.rpower pw HPW.out).mono ?_
      intro e w6 hpost
      obtain ⟨⟨u6, he⟩, V6, L6, h6⟩ := hpost
      subst he
      have H6 := Lib.hid h6
      clear h6
      have HS6 := Lib.hid (H6.out.cache.lt)
      obtain ⟨s6, hs6⟩ : ∃ s6, s6 = { s with d := s.d.powered pw } := ⟨_, rfl⟩
      rw [← hs6] at H6
      clear hs6 HI H5
      have hmk := mk_acts
      have HR6 := Lib.hid (made_row w6)
      have HSr := Lib.hid (Src.grow (HA.out.grow H6.out.grow).src (Grow.alloc w6 (.cells #[] 53)))
      have HLn := Lib.hid (show ([] : List (List Value)).length + (la.map ac).length ≤ 1000000 by rw [List.length_map, List.length_nil, ← HK.out]; omega)
      go_upto_region 19 with (at_builtin; refine wpList_append_rows rfl _ _ 23 rfl 53 (ac zeroA) 258 272 Try.underlying23 infoA zeroA_length (by omega) (.slice (some ⟨w6.heap.size, 0, none⟩) 0 0) (.slice aa K capa) [] (la.map ac) rfl (by simp) HR6.out rfl HSr.out HLn.out (by omega) ?_; intro v7 w7 happ htch hnn)
      obtain ⟨g, cg, rfl, h1, h2, h3⟩ := copy_done rfl happ htch hnn
      have HAR := Lib.hid h1
      have H7 := Lib.hid (H6.out.later h3)
      have HGg := Lib.hid (show (∀ i ∈ U5 ++ V6, i ≠ g) ∧ w.heap.size ≤ g ∧ g < w7.heap.size from ⟨fun i hi e => by
        rcases List.mem_append.1 hi with h4 | h4
        · have := H6.out.cache.lt i h4; omega
        · have := H6.out.rc.lt i h4; omega, Nat.le_trans H6.out.grow.size h2, h1.lt rfl⟩)
      clear h1 h2 h3 happ htch hnn HR6 HSr HLn hmk H6 HS6
      rw [← HK.out]
      have HLK := Lib.hid (show la.length ≤ 1000 by rw [← HK.out]; omega)
      have HMN := Lib.hid (mnew_ok H7.out.cache HAR.out HLK.out)
      rw [← HK.out] at HMN
      go_wp2_with fail
      refine HMN.out.mono ?_
      intro e w8 hpost
      obtain ⟨M, W, he, h1, h2, h3⟩ := hpost
      subst he
      have HSI := Lib.hid (show SI w C B Q R M U5 V6 W (2 * N + 1 + 1) s6 s6 L6 la w8 from {
        li := H7.out.later h2
        mach := h1
        wu := fun i hi hm => by have := H7.out.cache.lt i hm; have := h3 i hi; omega
        wv := fun i hi hm => by have := H7.out.rc.lt i hm; have := h3 i hi; omega
        wlo := fun i hi => Nat.le_trans H7.out.grow.size (h3 i hi) })
      have HAR8 := Lib.hid (show Row w8 53 258 (.slice (some ⟨g, 0, none⟩) K cg) (la.map ac) by have := HAR.out.kept (Touch.of_below (S := []) h2) (by simp); unfold ARow at this; rw [← HK.out] at this; exact this)
      have HGW := Lib.hid (show ∀ i ∈ (U5 ++ V6) ++ W, i ∉ [g] from fun i hi hm => by
        rw [List.mem_singleton.1 hm] at hi
        rcases List.mem_append.1 hi with h4 | h4
        · exact HGg.out.1 g h4 rfl
        · have := h3 g h4; have := HGg.out.2.2; omega)
      have HML := Lib.hid (mleft_ok h1)
      rw [← HK.out] at HML
      clear h1 h2 h3 H7 HAR HMN
      go_wp2_with fail
      refine HML.out.mono ?_
      rintro e w' ⟨rfl, rfl⟩
      go_wp2_with fail
      have HB9 := Lib.hid built53
      have HZL := Lib.hid (show (ac ⟨9, 0, zeroB⟩).length = 258 from ac_length zeroB_length)
      have HO9 := Lib.hid (all_oneCell_toArray (ac_one ⟨9, 0, zeroB⟩))
      have hzz : (ac ⟨9, 0, zeroB⟩).toArray.toList = ac ⟨9, 0, zeroB⟩ := rfl
      generalize ac ⟨9, 0, zeroB⟩ = z9 at *
      have HS9 := Lib.hid (show (Try.prog.info? 53).map (·.size) = some z9.toArray.size by rw [List.size_toArray, HZL.out]; exact sizeA)
      go_loopw [20] (fun t20 wr => ∃ (i : Nat) (rows : List (List Value)), t20 = .int .i64 (i : Int) ∧ i ≤ K ∧ Hid (Touch [g] w8 wr) ∧ Hid (Row wr 53 258 (.slice (some ⟨g, 0, none⟩) K cg) rows) ∧ Hid (rows.length = K)) (fun t20 _ => K - (intOf t20).toNat)
      case atStart => exact ⟨0, _, rfl, by omega, Lib.hid (Touch.refl _ _), HAR8, Lib.hid (by rw [List.length_map, HK.out])⟩
      case round =>
        obtain ⟨i, rows, rfl, hi, HTT, HRW, HRL⟩ := hrel
        by_cases hlt : i < K
        · have b0 : (0 : Int) ≤ (i : Int) := by omega
          have b1 : (i : Int) < (K : Int) := by omega
          have hir : i < rows.length := by rw [HRL.out]; exact hlt
          have HTH := Lib.hid (show wr.there g (i * 258) z9.toArray.size by rw [List.size_toArray, HZL.out]; exact HRW.out.there hir)
          have HRN := Lib.hid (HRW.out.store HZL.out hir)
          have HTN := Lib.hid (HTT.out.trans (touch_setCells (S := [g]) (g := g) (by simp) z9 (i * 258) wr) (fun i hi => .inl hi))
          clear hir
          go_wp2_with (first | (refine wpList_build_to rfl 53 _ rfl z9.toArray (by simp only [List.map_toArray, List.map_cons, List.map_nil]; exact HB9.out) ?_) | (refine wpList_store_mid rfl 53 _ _ rfl g (i * 258) z9.toArray rfl rfl HTH.out HS9.out HO9.out ?_))
          go_roundw
          case rel => exact ⟨i + 1, _, by go_num, by omega, HTN, HRN, Lib.hid (by rw [List.length_set]; exact HRL.out)⟩
          case measure => simp [intOf]; omega
        · obtain rfl : K = i := by omega
          have HS1 := Lib.hid (HSI.out.kept HTT.out HGW.out (fun i hi => by rw [List.mem_singleton.1 hi]; exact HGg.out.2.1))
          clear HTT HRW HRL HSI HAR8 HML HGW HGg HB9 HZL HO9 HS9 hzz
          generalize wr = w9 at *
          have hz25 := zeroAct
          have hk100 : K ≤ 100 := by omega
          have hwk : IntKind.i64.wrap ((K : Int) + 2) = (K : Int) + 2 := by rw [IntKind.wrap_i64]; omega
          go_wp2_with fail
          go_loopw [21, 22] (fun t21 t22 wr => ∃ (i j k : Nat) (U V W : List Nat) (s : CS) (Lst : List HE), t22 = .int .i64 (i : Int) ∧ t21 = .int .i64 (j : Int) ∧ i ≤ K + 2 ∧ j ≤ K ∧ k ≤ 300 + 2 * i ∧ Hid (SI w C B Q R M U V W k s s Lst (la.drop j) wr)) (fun _ t22 _ => K + 2 - (intOf t22).toNat)
          case atStart => exact ⟨0, 0, _, U5, V6, W, s6, L6, rfl, rfl, by omega, by omega, by omega, HS1⟩
          case round =>
            obtain ⟨i, j, k, U, V, W', s, Lst, rfl, rfl, hi, hj, hk, HI⟩ := hrel
            by_cases hlt : i < K + 2
            · have b1 : (i : Int) < (K : Int) + 2 := by omega
              have h0j : (0 : Int) ≤ (j : Int) := by omega
              by_cases hjk : j < K
              · have hjk1 : (j : Int) < (K : Int) := by omega
                obtain ⟨p, hp⟩ : ∃ p, la[j]? = some p := ⟨la[j]'(by rw [← HK.out]; exact hjk), by simp⟩
                have hdr : la.drop j = p :: la.drop (j + 1) := by
                  rw [List.drop_eq_getElem_cons (by rw [← HK.out]; exact hjk)]
                  have := (List.getElem?_eq_some_iff.1 hp).2
                  rw [this]
                obtain ⟨a', cap', hv', _, hel⟩ := HA.out
                rw [← HK.out] at hv'
                cases hv'
                obtain ⟨hx, y, rfl, hyb, hcy⟩ := hel j p hp
                have HCY := Lib.hid (show ∀ wq, Grow w wq → ∀ q u, (ac p)[q]? = some u → wq.cell? ((y.add (j * 258)).add q) = some u from fun wq hg q u hq => (Below.cell hg (by rw [add_block, add_block]; exact hyb)).trans (hcy q u hq))
                have hI := HI.out
                rw [hdr] at hI
                have HS := Lib.hid (hI.step (by omega) (by rw [List.length_drop, ← HK.out]; omega))
                have HDO := Lib.hid (fun (U' W'' : List Nat) rem w' (h : SI w C B Q R M U' V W'' (k + 1) (s.act p).2 s Lst rem w') => h.do_ (by omega) p hx)
                have hal := ac_length hx
                have HSz := Lib.hid (show (Try.prog.info? 53).map (·.size) = some (ac p).length by rw [hal]; exact sizeA)
                have HSz2 := Lib.hid (show (Try.prog.info? 53).map (·.size) = some (ac p).toArray.size by rw [List.size_toArray, hal]; exact sizeA)
                have HZA := Lib.hid (show (ac zeroA).toArray.size = (ac p).toArray.size by rw [List.size_toArray, List.size_toArray, zeroA_length, hal])
                have hOA := Lib.hid (all_oneCell_toArray (ac_one p))
                have HSb := Lib.hid (show (Try.prog.info? 44).map (·.size) = some (bc p.x).length by rw [bc_length, hx]; exact size32)
                have HBA := Lib.hid (built_act p hx)
                obtain ⟨c, hcd⟩ : ∃ c, c = (s.act p).1 := ⟨_, rfl⟩
                obtain ⟨s', hsd⟩ : ∃ s', s' = (s.act p).2 := ⟨_, rfl⟩
                rw [← hcd, ← hsd] at HS HDO
                clear hp hel hx hyb hcy hI hcd hsd HI hal
                by_cases hc : c = 0
                · by_cases hj1 : j + 1 = K
                  · have hD : decide (c = 0 ∧ la.drop (j + 1) = []) = true := by
                      rw [hc, List.drop_eq_nil_of_le (by rw [← HK.out]; omega)]; simp
                    have hlf : leftOf c (p :: la.drop (j + 1)) = la.drop (j + 1) := by unfold leftOf; rw [if_pos hc]; rfl
                    rw [hD, hlf] at HS
                    rw [hc] at HS HDO
                    have hej : (((j : Int) + 1) == (K : Int)) = true := by simp; omega
                    obtain ⟨q, hq⟩ : ∃ q, q = K - (j + 1) := ⟨_, rfl⟩
                    have HQL := Lib.hid (show (la.drop (j + 1)).length = q by rw [List.length_drop, ← HK.out, hq])
                    have hwq : IntKind.i64.wrap ((K : Int) - ((j : Int) + 1)) = (q : Int) := by rw [IntKind.wrap_i64]; omega
                    clear hD hlf hdr hq hc
                    go_wp2_with fail
                    refine HS.out.mono ?_
                    intro e w1 hpost
                    obtain ⟨he, U2, W2, h1⟩ := hpost
                    subst he
                    have H1 := Lib.hid h1
                    have HCW := Lib.hid (HCY.out w1 h1.li.grow)
                    clear h1 HS
                    have HH2 := Lib.hid (heap_alloc_last w1 (.cells (ac zeroA).toArray 53))
                    have hgz := below_setRow ((Below.refl w1.heap.size w1).alloc (Nat.le_refl _) (.cells (ac zeroA).toArray 53)) (Nat.le_refl _) (ac p).toArray
                    have hbz : ((w1.alloc (.cells (ac zeroA).toArray 53)).setRow w1.heap.size (ac p).toArray).heap[w1.heap.size]? = some (.cells (ac p).toArray 53) := setRow_heap _ _ _ _ _ _ (heap_alloc_last _ _)
                    have HGZ := Lib.hid (show Grow w1 ((w1.alloc (.cells (ac zeroA).toArray 53)).setRow w1.heap.size (ac p).toArray) from hgz)
                    have HBZ := Lib.hid hbz
                    clear hgz hbz
                    have hz26 := zeroAct
                    clear hz25
                    generalize (ac zeroA).toArray = ZA at *
                    go_upto_region 34 with (first
                      | (refine wpList_load_at rfl 53 _ rfl (y.add (j * 258)) rfl (ac p) _ HCW.out Try.underlying53 rfl HSz.out ?_)
                      | (refine wpList_store_row rfl 53 _ _ rfl w1.heap.size (ac p).toArray rfl rfl 53 ZA HH2.out HSz2.out HZA.out hOA.out ?_))
                    obtain ⟨BX, hBX⟩ : ∃ BX, BX = w1.heap.size := ⟨_, rfl⟩
                    have HBX := Lib.hid (show ((w1.alloc (.cells ZA 53)).setRow w1.heap.size (ac p).toArray).heap[BX]? = some (.cells (ac p).toArray 53) by rw [hBX]; exact HBZ.out)
                    rw [← hBX]
                    rw [← hBX] at HBX HGZ
                    clear hBX HH2 HBZ
                    generalize (w1.alloc (.cells ZA 53)).setRow BX (ac p).toArray = wz at *
                    have x0 : wz.cell? ⟨BX, 0, none⟩ = some (.int .u8 p.k) := cell_at HBX.out 0
                    have x1 : wz.cell? ⟨BX, 1, none⟩ = some (.int .i64 p.b) := cell_at HBX.out 1
                    have HRX := Lib.hid (show wz.rangeAt BX 2 (bc p.x) from fun q u hq => by rw [cell_at HBX.out (2 + q), List.getElem?_toArray, show 2 + q = q + 1 + 1 by omega]; exact hq)
                    have HD1 := Lib.hid (HDO.out _ _ _ _ (H1.out.later HGZ.out))
                    clear HDO H1 HCW HBX HGZ hz26
                    go_wp2_with (first
                      | (refine wpList_load_mid rfl 44 _ rfl BX 2 rfl (bc p.x) _ HRX.out Try.underlying44 rfl HSb.out ?_)
                      | (refine wpList_build_to rfl 57 _ rfl (ac p).toArray (by simp only [List.map_toArray, List.map_cons, List.map_nil]; exact HBA.out) ?_))
                    refine HD1.out.mono ?_
                    intro e w3 hpost
                    obtain ⟨he, V2, L2, h1⟩ := hpost
                    subst he
                    have H3 := Lib.hid h1
                    have HML := Lib.hid (mleft_ok h1.mach)
                    rw [HQL.out] at HML
                    clear h1 x0 x1 HRX HD1
                    go_wp2_with fail
                    refine HML.out.mono ?_
                    rintro e w' ⟨rfl, rfl⟩
                    go_wp2_with fail
                    go_roundw
                    case rel => exact ⟨i + 1, j + 1, k + 1 + 1, U2, V2, W2, s', L2, by go_num, by go_num, by omega, by omega, by omega, H3⟩
                    case measure => simp [intOf]; omega
                  · have hD : decide (c = 0 ∧ la.drop (j + 1) = []) = false := by
                      have : ¬ la.drop (j + 1) = [] := fun e => by have := List.drop_eq_nil_iff.1 e; rw [← HK.out] at this; omega
                      simp [this]
                    have hlf : leftOf c (p :: la.drop (j + 1)) = la.drop (j + 1) := by unfold leftOf; rw [if_pos hc]; rfl
                    rw [hD, hlf] at HS
                    rw [hc] at HS HDO
                    have hej : (((j : Int) + 1) == (K : Int)) = false := by simp; omega
                    obtain ⟨q, hq⟩ : ∃ q, q = K - (j + 1) := ⟨_, rfl⟩
                    have HQL := Lib.hid (show (la.drop (j + 1)).length = q by rw [List.length_drop, ← HK.out, hq])
                    have hwq : IntKind.i64.wrap ((K : Int) - ((j : Int) + 1)) = (q : Int) := by rw [IntKind.wrap_i64]; omega
                    clear hD hlf hdr hq hc
                    go_wp2_with fail
                    refine HS.out.mono ?_
                    intro e w1 hpost
                    obtain ⟨he, U2, W2, h1⟩ := hpost
                    subst he
                    have H1 := Lib.hid h1
                    have HCW := Lib.hid (HCY.out w1 h1.li.grow)
                    clear h1 HS
                    have HH2 := Lib.hid (heap_alloc_last w1 (.cells (ac zeroA).toArray 53))
                    have hgz := below_setRow ((Below.refl w1.heap.size w1).alloc (Nat.le_refl _) (.cells (ac zeroA).toArray 53)) (Nat.le_refl _) (ac p).toArray
                    have hbz : ((w1.alloc (.cells (ac zeroA).toArray 53)).setRow w1.heap.size (ac p).toArray).heap[w1.heap.size]? = some (.cells (ac p).toArray 53) := setRow_heap _ _ _ _ _ _ (heap_alloc_last _ _)
                    have HGZ := Lib.hid (show Grow w1 ((w1.alloc (.cells (ac zeroA).toArray 53)).setRow w1.heap.size (ac p).toArray) from hgz)
                    have HBZ := Lib.hid hbz
                    clear hgz hbz
                    have hz26 := zeroAct
                    clear hz25
                    generalize (ac zeroA).toArray = ZA at *
                    go_upto_region 34 with (first
                      | (refine wpList_load_at rfl 53 _ rfl (y.add (j * 258)) rfl (ac p) _ HCW.out Try.underlying53 rfl HSz.out ?_)
                      | (refine wpList_store_row rfl 53 _ _ rfl w1.heap.size (ac p).toArray rfl rfl 53 ZA HH2.out HSz2.out HZA.out hOA.out ?_))
                    obtain ⟨BX, hBX⟩ : ∃ BX, BX = w1.heap.size := ⟨_, rfl⟩
                    have HBX := Lib.hid (show ((w1.alloc (.cells ZA 53)).setRow w1.heap.size (ac p).toArray).heap[BX]? = some (.cells (ac p).toArray 53) by rw [hBX]; exact HBZ.out)
                    rw [← hBX]
                    rw [← hBX] at HBX HGZ
                    clear hBX HH2 HBZ
                    generalize (w1.alloc (.cells ZA 53)).setRow BX (ac p).toArray = wz at *
                    have x0 : wz.cell? ⟨BX, 0, none⟩ = some (.int .u8 p.k) := cell_at HBX.out 0
                    have x1 : wz.cell? ⟨BX, 1, none⟩ = some (.int .i64 p.b) := cell_at HBX.out 1
                    have HRX := Lib.hid (show wz.rangeAt BX 2 (bc p.x) from fun q u hq => by rw [cell_at HBX.out (2 + q), List.getElem?_toArray, show 2 + q = q + 1 + 1 by omega]; exact hq)
                    have HD1 := Lib.hid (HDO.out _ _ _ _ (H1.out.later HGZ.out))
                    clear HDO H1 HCW HBX HGZ hz26
                    go_wp2_with (first
                      | (refine wpList_load_mid rfl 44 _ rfl BX 2 rfl (bc p.x) _ HRX.out Try.underlying44 rfl HSb.out ?_)
                      | (refine wpList_build_to rfl 57 _ rfl (ac p).toArray (by simp only [List.map_toArray, List.map_cons, List.map_nil]; exact HBA.out) ?_))
                    refine HD1.out.mono ?_
                    intro e w3 hpost
                    obtain ⟨he, V2, L2, h1⟩ := hpost
                    subst he
                    have H3 := Lib.hid h1
                    have HML := Lib.hid (mleft_ok h1.mach)
                    rw [HQL.out] at HML
                    clear h1 x0 x1 HRX HD1
                    go_wp2_with fail
                    refine HML.out.mono ?_
                    rintro e w' ⟨rfl, rfl⟩
                    go_wp2_with fail
                    go_roundw
                    case rel => exact ⟨i + 1, j + 1, k + 1 + 1, U2, V2, W2, s', L2, by go_num, by go_num, by omega, by omega, by omega, H3⟩
                    case measure => simp [intOf]; omega
                · have hD : decide (c = 0 ∧ la.drop (j + 1) = []) = false := by
                    simp [hc]
                  have hlf : leftOf c (p :: la.drop (j + 1)) = la.drop (j) := by unfold leftOf; rw [if_neg hc]; exact hdr.symm
                  rw [hD, hlf] at HS
                  have hec : (c == 0) = false := by simpa using hc
                  obtain ⟨q, hq⟩ : ∃ q, q = K - (j) := ⟨_, rfl⟩
                  have HQL := Lib.hid (show (la.drop (j)).length = q by rw [List.length_drop, ← HK.out, hq])
                  have hwq : IntKind.i64.wrap ((K : Int) - (j : Int)) = (q : Int) := by rw [IntKind.wrap_i64]; omega
                  clear hD hlf hdr hq hc
                  go_wp2_with fail
                  refine HS.out.mono ?_
                  intro e w1 hpost
                  obtain ⟨he, U2, W2, h1⟩ := hpost
                  subst he
                  have H1 := Lib.hid h1
                  have HCW := Lib.hid (HCY.out w1 h1.li.grow)
                  clear h1 HS
                  have HH2 := Lib.hid (heap_alloc_last w1 (.cells (ac zeroA).toArray 53))
                  have hgz := below_setRow ((Below.refl w1.heap.size w1).alloc (Nat.le_refl _) (.cells (ac zeroA).toArray 53)) (Nat.le_refl _) (ac p).toArray
                  have hbz : ((w1.alloc (.cells (ac zeroA).toArray 53)).setRow w1.heap.size (ac p).toArray).heap[w1.heap.size]? = some (.cells (ac p).toArray 53) := setRow_heap _ _ _ _ _ _ (heap_alloc_last _ _)
                  have HGZ := Lib.hid (show Grow w1 ((w1.alloc (.cells (ac zeroA).toArray 53)).setRow w1.heap.size (ac p).toArray) from hgz)
                  have HBZ := Lib.hid hbz
                  clear hgz hbz
                  have hz26 := zeroAct
                  clear hz25
                  generalize (ac zeroA).toArray = ZA at *
                  go_upto_region 34 with (first
                    | (refine wpList_load_at rfl 53 _ rfl (y.add (j * 258)) rfl (ac p) _ HCW.out Try.underlying53 rfl HSz.out ?_)
                    | (refine wpList_store_row rfl 53 _ _ rfl w1.heap.size (ac p).toArray rfl rfl 53 ZA HH2.out HSz2.out HZA.out hOA.out ?_))
                  obtain ⟨BX, hBX⟩ : ∃ BX, BX = w1.heap.size := ⟨_, rfl⟩
                  have HBX := Lib.hid (show ((w1.alloc (.cells ZA 53)).setRow w1.heap.size (ac p).toArray).heap[BX]? = some (.cells (ac p).toArray 53) by rw [hBX]; exact HBZ.out)
                  rw [← hBX]
                  rw [← hBX] at HBX HGZ
                  clear hBX HH2 HBZ
                  generalize (w1.alloc (.cells ZA 53)).setRow BX (ac p).toArray = wz at *
                  have x0 : wz.cell? ⟨BX, 0, none⟩ = some (.int .u8 p.k) := cell_at HBX.out 0
                  have x1 : wz.cell? ⟨BX, 1, none⟩ = some (.int .i64 p.b) := cell_at HBX.out 1
                  have HRX := Lib.hid (show wz.rangeAt BX 2 (bc p.x) from fun q u hq => by rw [cell_at HBX.out (2 + q), List.getElem?_toArray, show 2 + q = q + 1 + 1 by omega]; exact hq)
                  have HD1 := Lib.hid (HDO.out _ _ _ _ (H1.out.later HGZ.out))
                  clear HDO H1 HCW HBX HGZ hz26
                  go_wp2_with (first
                    | (refine wpList_load_mid rfl 44 _ rfl BX 2 rfl (bc p.x) _ HRX.out Try.underlying44 rfl HSb.out ?_)
                    | (refine wpList_build_to rfl 57 _ rfl (ac p).toArray (by simp only [List.map_toArray, List.map_cons, List.map_nil]; exact HBA.out) ?_))
                  refine HD1.out.mono ?_
                  intro e w3 hpost
                  obtain ⟨he, V2, L2, h1⟩ := hpost
                  subst he
                  have H3 := Lib.hid h1
                  have HML := Lib.hid (mleft_ok h1.mach)
                  rw [HQL.out] at HML
                  clear h1 x0 x1 HRX HD1
                  go_wp2_with fail
                  refine HML.out.mono ?_
                  rintro e w' ⟨rfl, rfl⟩
                  go_wp2_with fail
                  go_roundw
                  case rel => exact ⟨i + 1, j, k + 1 + 1, U2, V2, W2, s', L2, by go_num, rfl, by omega, by omega, by omega, H3⟩
                  case measure => simp [intOf]; omega
              · obtain rfl : K = j := by omega
                have hjk1 : ¬ ((K : Int) < (K : Int)) := by omega
                have hI := HI.out
                rw [List.drop_eq_nil_of_le (by rw [← HK.out]; exact Nat.le_refl _)] at hI
                have HS := Lib.hid (mstep_done hI.mach)
                have HML := Lib.hid (mleft_ok hI.mach)
                have hek : ((K : Int) == (K : Int)) = true := by simp
                have hwq : IntKind.i64.wrap ((K : Int) - (K : Int)) = 0 := by rw [IntKind.wrap_i64]; omega
                clear hI
                go_wp2_with fail
                refine HS.out.mono ?_
                rintro e w' ⟨rfl, rfl⟩
                go_wp2_with fail
                refine HML.out.mono ?_
                rintro e w' ⟨rfl, rfl⟩
                go_wp2_with fail
                go_roundw
                case rel => exact ⟨i + 1, K, k, U, V, W', s, Lst, by go_num, rfl, by omega, by omega, by omega, HI⟩
                case measure => simp [intOf]; omega
            · obtain rfl : i = K + 2 := by omega
              obtain ⟨S, hd⟩ := HI.out.li.disk
              obtain ⟨T, vl, hV, hp⟩ := HI.out.li.rc
              obtain ⟨g39, c39, vw, h1⟩ := hp.ref
              have hf := HI.out.li.fair
              have hks := hf.ws
              obtain ⟨n39, hn39⟩ : ∃ n39, n39 = s.d.safe.length := ⟨_, rfl⟩
              have HLR := Lib.hid (h1.lt R h1.inR)
              have HR0 := Lib.hid h1.cells.1
              have HR2 := Lib.hid h1.cells.2.2.1
              have HRL := Lib.hid h1.row
              have hll := applyW_length s.d.ws s.d.safe
              have HG1 := Lib.hid (show 1 ≤ (applyW s.d.safe s.d.ws).length by rw [hll]; exact h1.one)
              have HG2 := Lib.hid (show (applyW s.d.safe s.d.ws).length ≤ 4096 by rw [hll]; have := h1.most; omega)
              have HL1 := Lib.hid h1.one
              have HL2 := Lib.hid (show s.d.safe.length ≤ 4096 by have := h1.most; omega)
              have HC16 := Lib.hid (fun wq (ht : Touch [] wr wq) => acts_any (hd.kept ht (by simp)))
              have HC1 := Lib.hid (fun wq (ht : Touch [] wr wq) => (image_ok (hd.kept ht (by simp))).mono fun e w' hh => by rw [hf.last] at hh; exact hh.row)
              have HC3 := Lib.hid (fun wq (ht : Touch [] wr wq) => (rimage_ok (h1.kept ht (by simp)) hf.wlt (by omega)).mono fun e w' hh => hh.row)
              have HC7 := Lib.hid (fun wq (ht : Touch [] wr wq) => (safe_ok (hd.kept ht (by simp))).mono fun e w' hh => hh.row)
              rw [← hn39] at HR0 HRL
              have HGF := Lib.hid HI.out.li.grow
              clear hd hp h1 hf hks hll hn39 hV
              go_wp2_with fail
              refine steps_reg39 B R g39 n39 c39 s.d.acts (applyW s.d.safe s.d.ws) s.d.safe wr HLR HR0 HR2 HRL HG1 HG2 HL1 HL2 HC16 HC1 HC3 HC7 _ _ _ _ _ _ _ _ _ _ _ _ _ _ _ _ _ _ _ _ _ _ _ _ _ _ _ _ _ _ _ _ _ _ _ _ _ _ _ _ _ _ _ _ _ _ _ _ _ _ _ _ _ _ _ _ _ _ _ _ _ _ _ _ _ _ _ _ _ _ _ _ _ _ _ _ _ _ _ _ _ _ _ _ _ _ _ _ _ _ _ _ _ _ _ _ _ _ _ _ _ _ _ _ _ _ _ _ _ _ _ _ _ _ _ _ _ _ _ _ _ _ _ _ _ _ _ _ _ _ _ _ _ _ _ _ _ _ _ _ _ _ _ _ _ _ _ _ _ _ _ _ _ _ _ _ _ _ _ _ _ _ _ _ _ _ _ _ _ _ _ _ _ _ _ _ _ _ _ _ _ _ _ _ _ _ _ _ _ _ _ _ _ _ _ _ _ _ _ _ _ _ _ _ _ _ _ _ _ _ _ _ _ _ (Lib.hid ?hstepsreg393)
              intro u192 u193 u194 u195 u196 u197 u198 u199 u200 u201 u202 u203 u204 u205 u206 u207 u208 u209 u210 u211 u212 u213 u214 wz hRwz
              have HFin := Lib.hid (Below.trans HGF.out (hRwz.below HGF.out.size (by simp)))
              clear hRwz
              go_wp2_with fail
              go_ret
              exact ⟨rfl, HFin.out⟩
#print axioms steps_walk
end Go.Proofs.Ytieknecbheeekaa
