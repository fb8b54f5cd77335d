/- The law CacheUnseen: the walk. -/
import Derived.Test.YtmfofobmceflmaaC19
import Derived.Deep.CutBlock
set_option linter.unusedVariables false
set_option linter.unusedSimpArgs false
namespace Go.Proofs.Ytmfofobmceflmaa
open Go.RowKit Go.Maps

structure UState (N n : Nat) (w : World) (C B gm : Nat) (U : List Nat) (s : CS) (m : List Blk) (wr : World) : Prop where
  cache : IsCache wr C B U n s
  good : CGood N n s
  tells : Tells N m s
  row : Row wr 32 256 (.slice (some ⟨gm, 0, none⟩) N N) (m.map bc)
  out : gm ∉ U
  lo : ∀ j ∈ U, w.heap.size ≤ j
  low : w.heap.size ≤ gm
  grow : Grow w wr
theorem UState.lens {N n : Nat} {w : World} {C B gm : Nat} {U : List Nat} {s : CS} {m : List Blk} {wr : World} (h : UState N n w C B gm U s m wr) : s.d.last.length = N := by
  have := h.cache.facts.2.2.1
  rw [this]; exact h.good.safe
theorem UState.step {N n n' : Nat} {w : World} {C B gm : Nat} {U : List Nat} {s s' : CS} {m : List Blk} {wr w' : World} (h : UState N n w C B gm U s m wr) (hn : n ≤ n') (hs : Stands C B U n' s' wr w') (hg : CGood N n' s') (ht : Tells N m s') : ∃ U', UState N n' w C B gm U' s' m w' ∧ ∀ k ∈ U', k ∈ U ∨ wr.heap.size ≤ k := by
  obtain ⟨U', h1, h2, h3⟩ := hs
  have hgl : gm < wr.heap.size := h.row.lt rfl
  refine ⟨U', ⟨h1, hg, ht, h.row.kept h2 (fun g e => by cases e; exact h.out), fun hm => ?_, fun j hj => ?_, h.low, Below.trans h.grow (h2.below h.grow.size h.lo)⟩, h3⟩
  · rcases h3 gm hm with h4 | h4
    · exact h.out h4
    · omega
  · rcases h3 j hj with h4 | h4
    · exact h.lo j h4
    · exact Nat.le_trans h.grow.size h4
theorem UState.later {N n : Nat} {w : World} {C B gm : Nat} {U : List Nat} {s : CS} {m : List Blk} {wr w' : World} (h : UState N n w C B gm U s m wr) (hg : Grow wr w') : UState N n w C B gm U s m w' :=
  { h with cache := h.cache.grow hg, row := h.row.kept (Touch.of_below (S := []) hg) (by simp), grow := h.grow.trans hg }
theorem zeroAct (w : World) : (zeroValue 49).run Try.prog w = .ok (.agg #[.int .u8 0, .int .i64 0, .int .u32 0, .slice none 0 0]) w := by kernel_rfl
theorem act_one (q b : Int) (f : Nat) (vk : Value) (h : vk.oneCell' = true) : (#[.int .u8 q, .int .i64 b, .int .u32 (f : Int), vk] : Array Value).all (·.oneCell') = true := by
  refine all_oneCell_toArray (cs := [.int .u8 q, .int .i64 b, .int .u32 (f : Int), vk]) ?_
  intro v hv
  rcases List.mem_cons.1 hv with h1 | hv
  · rw [h1]; rfl
  rcases List.mem_cons.1 hv with h1 | hv
  · rw [h1]; rfl
  rcases List.mem_cons.1 hv with h1 | hv
  · rw [h1]; rfl
  rw [List.mem_singleton.1 hv]; exact h
theorem sizeAct : (Try.prog.info? 49).map (·.size) = some 4 := by kernel_rfl
set_option maxRecDepth 100000 in
set_option maxHeartbeats 16000000 in
theorem unseen_walk (n : Int) (hn : IntOk n) {w : World} {v : Value} {l : List AU} (hp : ActsU w v l) (hl : l.length ≤ 9223372036854775807) :
    Calls Try.prog 8 #[.int .i64 n, v] w fun e w' => e = .returned (.bool true) ∧ Below w.heap.size w w' := by
  obtain ⟨ad, cap, rfl, hc⟩ := hp
  by_cases hbad : n < 1 ∨ 64 < n ∨ 200 < l.length
  · generalize l.length = L at *
    clear hc
    have hcase : decide (n < 1) = true ∨ (decide (n < 1) = false ∧ decide (64 < n) = true) ∨ (decide (n < 1) = false ∧ decide (64 < n) = false ∧ decide ((200 : Int) < (L : Int)) = true) := by simp; omega
    clear hbad
    rcases hcase with d0 | ⟨d0, d1⟩ | ⟨d0, d1, d2⟩
    all_goals
      go_enter Try.func8, Try.ntmps8
      go_wp2_with fail
      refine (awake_ok _).mono ?_
      intro e w' hpost
      obtain ⟨he, hg⟩ := hpost
      subst he
      have HGf := Lib.hid hg
      clear hg
      go_wp2_with fail
      go_ret
      exact ⟨rfl, HGf.out⟩
  · obtain ⟨N, rfl⟩ : ∃ N : Nat, n = (N : Int) := ⟨n.toNat, by omega⟩
    have h1 : 1 ≤ N := by omega
    have h2 : N ≤ 64 := by omega
    have HP := Lib.hid hc
    obtain ⟨L, hL⟩ : ∃ L, L = l.length := ⟨_, rfl⟩
    have h3 : L ≤ 200 := by omega
    rw [← hL]
    have HL := Lib.hid hL
    have d0 : decide ((N : Int) < 1) = false := by simp; omega
    have d1 : decide (64 < (N : Int)) = false := by simp; omega
    have d2 : decide ((200 : Int) < (L : Int)) = false := by simp; omega
    obtain ⟨M, hM, hmk⟩ := mk_run N (by omega)
    have HMM := Lib.hid hM
    clear hn hL hl hc hbad hM
    go_enter Try.func8, Try.ntmps8
    go_wp2_with fail
    refine (new_ok N h1 (by omega) _).mono ?_
    intro e w1 hpost
    obtain ⟨B, S, he, hd, hg, hS⟩ := hpost
    subst he
    have HD := Lib.hid hd
    have HG := Lib.hid hg
    have HS := Lib.hid hS
    clear hd hg hS
    go_wp2_with fail
    refine (cnew_ok HD.out).mono ?_
    intro e w2 hpost
    obtain ⟨C, U, he, hc, hg, hU⟩ := hpost
    subst he
    have HI0 := Lib.hid (show UState N 0 w C B w2.heap.size U (newC (newD N)) (List.replicate N zeroB) (w2.alloc (.cells M 32)) from
      { cache := hc.grow (Grow.alloc _ _)
        good := CGood.new N
        tells := Tells.new N
        row := row_new (by omega) HMM.out (heap_alloc_last _ _)
        out := fun hm => by have := hc.lt _ hm; omega
        lo := fun j hj => by
          rcases hU j hj with h | h
          · exact HS.out j h
          · exact Nat.le_trans HG.out.size h
        low := Nat.le_trans HG.out.size hg.size
        grow := (HG.out.trans hg).trans (Grow.alloc _ _) })
    clear hc hg hU
    go_wp2_with fail
    generalize w2.alloc (.cells M 32) = w3 at *
    obtain ⟨gm, hgm⟩ : ∃ g, g = w2.heap.size := ⟨_, rfl⟩
    rw [← hgm] at HI0
    rw [← hgm]
    clear hgm hmk
    go_loopw [10] (fun t10 wr => ∃ (i nn : Nat), i ≤ L ∧ nn ≤ 70 * i ∧ t10 = .int .i64 (i : Int) ∧ ∃ U s m, Hid (UState N nn w C B gm U s m wr)) (fun t10 _ => L - (intOf t10).toNat)
    case atStart => exact ⟨0, 0, by omega, by omega, rfl, _, _, _, HI0⟩
    case round =>
      obtain ⟨i, nn, hi, hnn0, rfl, U1, s, m, HIr⟩ := hrel
      by_cases hlt : i < L
      · have hil : i < l.length := by rw [← HL.out]; exact hlt
        obtain ⟨p, hpi⟩ : ∃ p, l[i]? = some p := ⟨l[i], by simp [hil]⟩
        obtain ⟨y, rfl, hyb, vk, hc0, hc1, hc2, hc3, hvk, hq, hpb, hpf⟩ := HP.out i p hpi
        obtain ⟨q, b, f⟩ := p
        dsimp only at hc0 hc1 hc2 hq hpb hpf
        have hgr := HIr.out.grow
        have hc0' := (hgr.cell (p := y.add (i * 4)) (by rw [add_block]; exact hyb)).trans hc0
        have hc1' : wr.cell? { block := (y.add (i * 4)).block, off := (y.add (i * 4)).off + 1 } = some (.int .i64 b) := (hgr.cell (p := (y.add (i * 4)).add 1) (by rw [add_block, add_block]; exact hyb)).trans hc1
        have hc2' : wr.cell? { block := (y.add (i * 4)).block, off := (y.add (i * 4)).off + 2 } = some (.int .u32 (f : Int)) := (hgr.cell (p := (y.add (i * 4)).add 2) (by rw [add_block, add_block]; exact hyb)).trans hc2
        have hc3' : wr.cell? { block := (y.add (i * 4)).block, off := (y.add (i * 4)).off + 3 } = some vk := (hgr.cell (p := (y.add (i * 4)).add 3) (by rw [add_block, add_block]; exact hyb)).trans hc3
        have hb0 : (0 : Int) ≤ (i : Int) := by omega
        have hb1 : (i : Int) < (L : Int) := by omega
        have HBO := Lib.hid hpb
        have HVK := Lib.hid (act_one q b f vk hvk)
        have hza := zeroAct
        obtain ⟨r, hr⟩ : ∃ r : Int, q.tmod 12 = r := ⟨_, rfl⟩
        have hrr : r = 0 ∨ r = 1 ∨ r = 2 ∨ r = 3 ∨ r = 4 ∨ r = 5 ∨ r = 6 ∨ r = 7 ∨ r = 8 ∨ r = 9 ∨ r = 10 ∨ r = 11 := by
          rw [Int.tmod_eq_emod_of_nonneg hq.1] at hr; omega
        have HFI := Lib.hid (fun w => fill_any f hpf w)
        have HX := Lib.hid (fillB_length f)
        generalize fillB f = x at *
        clear hgr hpi hil hc0 hc1 hc2 hc3 hyb hq hpb hvk
        go_upto_region 14 with (refine wpList_store_row rfl 49 _ _ rfl wr.heap.size #[.int .u8 q, .int .i64 b, .int .u32 (f : Int), vk] rfl rfl 49 _ (heap_alloc_last _ _) sizeAct rfl HVK.out ?_)
        have hg1 : Grow wr ((wr.alloc (.cells #[.int .u8 0, .int .i64 0, .int .u32 0, .slice none 0 0] 49)).setRow wr.heap.size #[.int .u8 q, .int .i64 b, .int .u32 (f : Int), vk]) := below_setRow ((Below.refl _ _).alloc (Nat.le_refl _) _) (Nat.le_refl _) _
        have hob : ((wr.alloc (.cells #[.int .u8 0, .int .i64 0, .int .u32 0, .slice none 0 0] 49)).setRow wr.heap.size #[.int .u8 q, .int .i64 b, .int .u32 (f : Int), vk]).heap[wr.heap.size]? = some (.cells #[.int .u8 q, .int .i64 b, .int .u32 (f : Int), vk] 49) := setRow_heap _ _ _ _ _ _ (heap_alloc_last _ _)
        have HI := Lib.hid (HIr.out.later hg1)
        have HPN := Lib.hid (show wr.heap.size ∉ U1 from fun hm => by have := HIr.out.cache.lt _ hm; omega)
        have HOB := Lib.hid hob
        clear hg1 hob HIr hc0' hc1' hc2' hc3' hza
        generalize (wr.alloc (.cells #[.int .u8 0, .int .i64 0, .int .u32 0, .slice none 0 0] 49)).setRow wr.heap.size #[.int .u8 q, .int .i64 b, .int .u32 (f : Int), vk] = W1 at *
        obtain ⟨PA, hPA⟩ : ∃ g, g = wr.heap.size := ⟨_, rfl⟩
        rw [← hPA] at HOB HPN
        rw [← hPA]
        clear hPA
        have HPA := Lib.hid (show PA < W1.heap.size from (Array.getElem?_eq_some_iff.1 HOB.out).1)
        have hq0 := cell_at HOB.out 0
        have HP1 := Lib.hid (show W1.cell? ⟨PA, 1, none⟩ = some (.int .i64 b) from cell_at HOB.out 1)
        have HP2 := Lib.hid (show W1.cell? ⟨PA, 2, none⟩ = some (.int .u32 (f : Int)) from cell_at HOB.out 2)
        go_upto_block 2 with (fail)
        go_cut [12] from 48 to 142 (fun t12 wx => ∃ (n2 : Nat) (U2 : List Nat) (s2 : CS) (m2 : List Blk), n2 ≤ nn + 66 ∧ Hid (UState N n2 w C B gm U2 s2 m2 wx))
        case rest =>
          obtain ⟨n2, U2, s2, m2, hn2, HIc⟩ := hcut
          have HI := HIc
          clear HIc HP1 HP2 HPA HOB HPN hq0 HFI HX hr hrr
          generalize hU2 : U2 = U1' at *
          clear hU2
          by_cases h9 : i % 9 = 0
          · have e9 : ((i : Int) % 9 == 0) = true := by simp; omega
            obtain ⟨j, hj⟩ : ∃ j, j = i % N := ⟨_, rfl⟩
            have hjN : j < N := by rw [hj]; exact Nat.mod_lt _ (by omega)
            have hrm : (i : Int).tmod (N : Int) = (j : Int) := by rw [Int.tmod_eq_emod_of_nonneg (by omega), hj]; exact (Int.natCast_emod i N).symm
            have heN : ((N : Int) == 0) = false := by simp; omega
            have HRM := Lib.hid hrm
            have HEN := Lib.hid heN
            clear hj h9
            have hcm : j < m2.length := by rw [HI.out.tells.len]; exact hjN
            obtain ⟨y, hy⟩ : ∃ y, m2[j]? = some y := ⟨m2[j], by simp [hcm]⟩
            have HY := Lib.hid (HI.out.tells.all y (List.mem_of_getElem? hy))
            have HRD := Lib.hid (cread_any HI.out.cache (by omega) HI.out.good HI.out.tells j hjN hy)
            have HXM := Lib.hid (show (m2.map bc)[j]? = some (bc y) by rw [List.getElem?_map, hy]; rfl)
            have hz := zero32
            have hzs := zero_size
            have HSz := Lib.hid (bsize HY.out)
            have HSl := Lib.hid (show (Try.prog.info? 32).map (·.size) = some (bc y).length by rw [bc_length, HY.out]; exact size32)
            have HO := Lib.hid (show (bc y).toArray.all (·.oneCell') = true from all_oneCell_toArray (bc_one _))
            have HEQ := Lib.hid (equal32 y HY.out)
            generalize (bc zeroB).toArray = Z at *
            have HSo := Lib.hid (show Z.size = (bc y).toArray.size from hzs.trans (show 256 = (bc y).toArray.size by rw [List.size_toArray, bc_length, HY.out]))
            clear hcm hy hzs
            go_wp2_with fail
            refine HRD.out.mono ?_
            intro e w4 hpost
            obtain ⟨he, s', hst, hsd, hsp, hte, _⟩ := hpost
            subst he
            obtain ⟨U2, hI4, hU4⟩ := HI.out.step (Nat.le_succ _) hst ((HI.out.good.same hsd).more (Nat.le_succ _)) hte
            have HI4 := Lib.hid hI4
            have HU4 := Lib.hid hU4
            clear hst hsd hsp hte hI4 hU4
            go_upto_region 36 with (refine wpList_store_row rfl 32 _ _ rfl w4.heap.size (bc y).toArray rfl rfl 32 Z (heap_alloc_last _ _) HSz.out HSo.out HO.out ?_)
            have hg5 : Grow w4 ((w4.alloc (.cells Z 32)).setRow w4.heap.size (bc y).toArray) := below_setRow ((Below.refl _ _).alloc (Nat.le_refl _) _) (Nat.le_refl _) _
            have HI5 := Lib.hid (HI4.out.later hg5)
            have HG5 := Lib.hid hg5
            have HCX := Lib.hid (show w4.heap.size < ((w4.alloc (.cells Z 32)).setRow w4.heap.size (bc y).toArray).heap.size ∧ ((w4.alloc (.cells Z 32)).setRow w4.heap.size (bc y).toArray).heap[w4.heap.size]? = some (.cells (bc y).toArray 32) from ⟨by simp, setRow_heap _ _ _ _ _ _ (heap_alloc_last _ _)⟩)
            clear hg5
            generalize (w4.alloc (.cells Z 32)).setRow w4.heap.size (bc y).toArray = W5 at *
            obtain ⟨BX, hBX⟩ : ∃ g, g = w4.heap.size := ⟨_, rfl⟩
            rw [← hBX] at HCX
            rw [← hBX]
            clear hBX
            have HRG := Lib.hid (HI5.out.row.range HXM.out)
            have HGL := Lib.hid (show gm < W5.heap.size from HI5.out.row.lt rfl)
            refine wp_region_facts (by kernel_rfl) [[], [(0, some 131)], [(1, some 132)], [(2, some 133)], [(2, some 133)], [(2, some 133)], [(2, some 133)], [(2, some 133), (5, some 136), (6, some 137)], [(2, some 133), (4, some 135), (7, some 138)], [(2, some 133), (8, some 139)], [(2, some 133), (3, some 134), (9, some 140)], [(2, some 133), (10, some 141)]] [(0, some 131), (1, some 132), (2, some 133), (3, some 134), (4, some 135), (5, some 136), (6, some 137), (7, some 138), (8, some 139), (9, some 140), (10, some 141), (11, some 142)] (by kernel_rfl) (by kernel_rfl) (by kernel_rfl) (Touch []) (Touch.refl []) (fun _ _ _ h h' => h.trans h' (fun i hi => .inl hi)) [Is (Value.int .i64 0), Is (Value.bool false), Is (Value.bool false), Is (Value.agg (bc y).toArray), Is (Value.slice (some ⟨gm, 0, none⟩) N N), Is (Value.int .i64 (i : Int)), Is (Value.int .i64 (N : Int)), Is (Value.int .i64 (j : Int)), Is (Value.pointer (some ⟨gm, j * 256, none⟩)), Is (Value.agg (bc y).toArray), Is (Value.bool false), Is (Value.bool false)] rfl ⟨is_stab _ _, is_stab _ _, is_stab _ _, is_stab _ _, is_stab _ _, is_stab _ _, is_stab _ _, is_stab _ _, is_stab _ _, is_stab _ _, is_stab _ _, is_stab _ _, trivial⟩ ⟨?o0, ?o1, ?o2, ?o3, ?o4, ?o5, ?o6, ?o7, ?o8, ?o9, ?o10, ?o11, trivial⟩ ?_
            case o0 =>
              intro vals wq hRq hpq
              simp only [List.getD_cons_zero, List.getD_cons_succ, canonP]
              simp only [Oper.gives]
              go_simp
              exact ⟨is_mk _ _, (Touch.refl []) _⟩
            case o1 =>
              intro vals wq hRq hpq
              simp only [factsP, List.getD_cons_zero, List.getD_cons_succ] at hpq
              have f0 := hpq.1
              replace hpq := hpq.2
              clear hpq
              replace f0 : vals 0 = _ := f0
              simp only [List.getD_cons_zero, List.getD_cons_succ, canonP, f0]
              clear f0
              simp only [Oper.gives]
              go_simp
              exact ⟨is_mk _ _, (Touch.refl []) _⟩
            case o2 =>
              intro vals wq hRq hpq
              simp only [factsP, List.getD_cons_zero, List.getD_cons_succ] at hpq
              have f1 := hpq.1
              replace hpq := hpq.2
              clear hpq
              replace f1 : vals 1 = _ := f1
              simp only [List.getD_cons_zero, List.getD_cons_succ, canonP, f1]
              clear f1
              simp only [Oper.gives]
              go_simp
              exact ⟨is_mk _ _, (Touch.refl []) _⟩
            case o3 =>
              intro vals wq hRq hpq
              simp only [factsP, List.getD_cons_zero, List.getD_cons_succ] at hpq
              have f2 := hpq.1
              replace hpq := hpq.2
              clear hpq
              replace f2 : vals 2 = _ := f2
              simp only [List.getD_cons_zero, List.getD_cons_succ, canonP, f2]
              clear f2
              have hbx : wq.heap[BX]? = some (.cells (bc y).toArray 32) := (Touch.block ((Touch.drew [] _).trans hRq (by simp)) BX HCX.out.1 (by simp)).trans HCX.out.2
              rw [if_pos (by rfl)]
              exact gives_load_row 32 _ rfl BX rfl 32 (bc y).toArray (0, 0) _ hbx Try.underlying32 rfl HSz.out ⟨is_mk _ _, Touch.refl _ _⟩
            case o4 =>
              intro vals wq hRq hpq
              simp only [factsP, List.getD_cons_zero, List.getD_cons_succ] at hpq
              have f2 := hpq.1
              replace hpq := hpq.2
              clear hpq
              replace f2 : vals 2 = _ := f2
              simp only [List.getD_cons_zero, List.getD_cons_succ, canonP, f2]
              clear f2
              simp only [Oper.gives]
              go_simp
              exact ⟨is_mk _ _, (Touch.refl []) _⟩
            case o5 =>
              intro vals wq hRq hpq
              simp only [factsP, List.getD_cons_zero, List.getD_cons_succ] at hpq
              have f2 := hpq.1
              replace hpq := hpq.2
              clear hpq
              replace f2 : vals 2 = _ := f2
              simp only [List.getD_cons_zero, List.getD_cons_succ, canonP, f2]
              clear f2
              simp only [Oper.gives]
              go_simp
              exact ⟨is_mk _ _, (Touch.refl []) _⟩
            case o6 =>
              intro vals wq hRq hpq
              simp only [factsP, List.getD_cons_zero, List.getD_cons_succ] at hpq
              have f2 := hpq.1
              replace hpq := hpq.2
              clear hpq
              replace f2 : vals 2 = _ := f2
              simp only [List.getD_cons_zero, List.getD_cons_succ, canonP, f2]
              clear f2
              simp only [Oper.gives]
              go_simp
              exact ⟨is_mk _ _, (Touch.refl []) _⟩
            case o7 =>
              intro vals wq hRq hpq
              simp only [factsP, List.getD_cons_zero, List.getD_cons_succ] at hpq
              have f2 := hpq.1
              replace hpq := hpq.2
              have f5 := hpq.1
              replace hpq := hpq.2
              have f6 := hpq.1
              replace hpq := hpq.2
              clear hpq
              replace f2 : vals 2 = _ := f2
              replace f5 : vals 5 = _ := f5
              replace f6 : vals 6 = _ := f6
              simp only [List.getD_cons_zero, List.getD_cons_succ, canonP, f2, f5, f6]
              clear f2 f5 f6
              have hrm := HRM.out
              have heN := HEN.out
              have hN0 : ¬ N = 0 := by omega
              simp only [Oper.gives]
              go_simp
              exact ⟨is_mk _ _, Touch.refl _ _⟩
            case o8 =>
              intro vals wq hRq hpq
              simp only [factsP, List.getD_cons_zero, List.getD_cons_succ] at hpq
              have f2 := hpq.1
              replace hpq := hpq.2
              have f4 := hpq.1
              replace hpq := hpq.2
              have f7 := hpq.1
              replace hpq := hpq.2
              clear hpq
              replace f2 : vals 2 = _ := f2
              replace f4 : vals 4 = _ := f4
              replace f7 : vals 7 = _ := f7
              simp only [List.getD_cons_zero, List.getD_cons_succ, canonP, f2, f4, f7]
              clear f2 f4 f7
              have hb0 : (0 : Int) ≤ (j : Int) := by omega
              have hb1 : (j : Int) < (N : Int) := by omega
              simp only [Oper.gives]
              go_simp
              exact ⟨is_mk _ _, Touch.refl _ _⟩
            case o9 =>
              intro vals wq hRq hpq
              simp only [factsP, List.getD_cons_zero, List.getD_cons_succ] at hpq
              have f2 := hpq.1
              replace hpq := hpq.2
              have f8 := hpq.1
              replace hpq := hpq.2
              clear hpq
              replace f2 : vals 2 = _ := f2
              replace f8 : vals 8 = _ := f8
              simp only [List.getD_cons_zero, List.getD_cons_succ, canonP, f2, f8]
              clear f2 f8
              have hrr := range_touch HRG.out ((Touch.drew [] _).trans hRq (by simp)) HGL.out (by simp)
              rw [if_pos (by rfl)]
              exact gives_load_mid 32 _ rfl gm (j * 256) rfl (bc y) _ hrr Try.underlying32 rfl HSl.out ⟨is_mk _ _, Touch.refl _ _⟩
            case o10 =>
              intro vals wq hRq hpq
              simp only [factsP, List.getD_cons_zero, List.getD_cons_succ] at hpq
              have f2 := hpq.1
              replace hpq := hpq.2
              have f3 := hpq.1
              replace hpq := hpq.2
              have f9 := hpq.1
              replace hpq := hpq.2
              clear hpq
              replace f2 : vals 2 = _ := f2
              replace f3 : vals 3 = _ := f3
              replace f9 : vals 9 = _ := f9
              simp only [List.getD_cons_zero, List.getD_cons_succ, canonP, f2, f3, f9]
              clear f2 f3 f9
              have hq1 := HEQ.out
              have hgT := guardT
              simp only [Oper.gives]
              go_simp
              exact ⟨is_mk _ _, Touch.refl _ _⟩
            case o11 =>
              intro vals wq hRq hpq
              simp only [factsP, List.getD_cons_zero, List.getD_cons_succ] at hpq
              have f2 := hpq.1
              replace hpq := hpq.2
              have f10 := hpq.1
              replace hpq := hpq.2
              clear hpq
              replace f2 : vals 2 = _ := f2
              replace f10 : vals 10 = _ := f10
              simp only [List.getD_cons_zero, List.getD_cons_succ, canonP, f2, f10]
              clear f2 f10
              simp only [Oper.gives]
              go_simp
              exact ⟨is_mk _ _, (Touch.refl []) _⟩
            intro vals wz hRwz hfwz
            simp only [AllFacts] at hfwz
            have g0 := hfwz.1
            replace hfwz := hfwz.2
            have g1 := hfwz.1
            replace hfwz := hfwz.2
            have g2 := hfwz.1
            replace hfwz := hfwz.2
            have g3 := hfwz.1
            replace hfwz := hfwz.2
            have g4 := hfwz.1
            replace hfwz := hfwz.2
            have g5 := hfwz.1
            replace hfwz := hfwz.2
            have g6 := hfwz.1
            replace hfwz := hfwz.2
            have g7 := hfwz.1
            replace hfwz := hfwz.2
            have g8 := hfwz.1
            replace hfwz := hfwz.2
            have g9 := hfwz.1
            replace hfwz := hfwz.2
            have g10 := hfwz.1
            replace hfwz := hfwz.2
            have g11 := hfwz.1
            replace hfwz := hfwz.2
            clear hfwz
            replace g0 : vals 0 = _ := g0
            replace g1 : vals 1 = _ := g1
            replace g2 : vals 2 = _ := g2
            replace g3 : vals 3 = _ := g3
            replace g4 : vals 4 = _ := g4
            replace g5 : vals 5 = _ := g5
            replace g6 : vals 6 = _ := g6
            replace g7 : vals 7 = _ := g7
            replace g8 : vals 8 = _ := g8
            replace g9 : vals 9 = _ := g9
            replace g10 : vals 10 = _ := g10
            replace g11 : vals 11 = _ := g11
            simp only [canonP, Act.put, List.setIfInBounds_toArray, List.set_cons_succ, List.set_cons_zero, g0, g1, g2, g3, g4, g5, g6, g7, g8, g9, g10, g11]
            clear g0 g1 g2 g3 g4 g5 g6 g7 g8 g9 g10 g11
            have HI6 := Lib.hid (HI5.out.later (((Touch.drew [] W5).trans hRwz (by simp)).below (Nat.le_refl _) (by simp)))
            clear hRwz
            go_wp2_with fail
            go_roundw
            case rel => exact ⟨i + 1, _, by omega, by omega, by go_num, _, _, _, HI6⟩
            case measure => simp [intOf]; omega
          · have e9 : ((i : Int) % 9 == 0) = false := by simp; omega
            clear h9
            go_wp2_with fail
            go_roundw
            case rel => exact ⟨i + 1, _, by omega, by omega, by go_num, _, _, _, HI⟩
            case measure => simp [intOf]; omega
        case first =>
         clear HOB
         rcases hrr with rfl | rfl | rfl | rfl | rfl | rfl | rfl | rfl | rfl | rfl | rfl | rfl
         · -- 0
           rcases ask_cases HI.out.good b with ⟨c, hbc, hcN, _⟩ | hno
           · subst hbc
             go_upto_region 17 with (fail)
             refine wp_region_facts_tail 6 (by kernel_rfl) (by kernel_rfl) [[], [], [(1, some 65)], [], [(3, some 67)], [(4, some 68)]] [(0, some 64), (1, some 65), (2, some 66), (3, some 67), (4, some 68), (5, some 69)] (by kernel_rfl) (by kernel_rfl) (by kernel_rfl) (Touch []) (Touch.refl []) (fun _ _ _ h h' => h.trans h' (fun i hi => .inl hi)) [Is (Value.pointer (some ⟨C, 0, none⟩)), Is (Value.pointer (some ⟨PA, 1, none⟩)), Is (Value.int .i64 (c : Int)), Is (Value.pointer (some ⟨PA, 2, none⟩)), Is (Value.int .u32 (f : Int)), Is (Value.agg (bc x).toArray)] rfl ⟨is_stab _ _, is_stab _ _, is_stab _ _, is_stab _ _, is_stab _ _, is_stab _ _, trivial⟩ ⟨?o0, ?o1, ?o2, ?o3, ?o4, ?o5, trivial⟩ ?_
             case o0 =>
               intro vals wq hRq hpq
               simp only [List.getD_cons_zero, List.getD_cons_succ, canonP]
               simp only [Oper.gives]
               go_simp
               exact ⟨is_mk _ _, (Touch.refl []) _⟩
             case o1 =>
               intro vals wq hRq hpq
               simp only [List.getD_cons_zero, List.getD_cons_succ, canonP]
               simp only [Oper.gives]
               go_simp
               exact ⟨is_mk _ _, Touch.refl _ _⟩
             case o2 =>
               intro vals wq hRq hpq
               simp only [factsP, List.getD_cons_zero, List.getD_cons_succ] at hpq
               have f1 := hpq.1
               replace hpq := hpq.2
               clear hpq
               replace f1 : vals 1 = _ := f1
               simp only [List.getD_cons_zero, List.getD_cons_succ, canonP, f1]
               clear f1
               have hcc : wq.cell? ⟨PA, 1, none⟩ = some (.int .i64 (c : Int)) := (Touch.cell ((Touch.drew [] _).trans hRq (by simp)) HPA.out (by simp)).trans HP1.out
               simp only [Oper.gives]
               go_simp
               exact ⟨is_mk _ _, Touch.refl _ _⟩
             case o3 =>
               intro vals wq hRq hpq
               simp only [List.getD_cons_zero, List.getD_cons_succ, canonP]
               simp only [Oper.gives]
               go_simp
               exact ⟨is_mk _ _, Touch.refl _ _⟩
             case o4 =>
               intro vals wq hRq hpq
               simp only [factsP, List.getD_cons_zero, List.getD_cons_succ] at hpq
               have f3 := hpq.1
               replace hpq := hpq.2
               clear hpq
               replace f3 : vals 3 = _ := f3
               simp only [List.getD_cons_zero, List.getD_cons_succ, canonP, f3]
               clear f3
               have hcc : wq.cell? ⟨PA, 2, none⟩ = some (.int .u32 (f : Int)) := (Touch.cell ((Touch.drew [] _).trans hRq (by simp)) HPA.out (by simp)).trans HP2.out
               simp only [Oper.gives]
               go_simp
               exact ⟨is_mk _ _, Touch.refl _ _⟩
             case o5 =>
               intro vals wq hRq hpq
               simp only [factsP, List.getD_cons_zero, List.getD_cons_succ] at hpq
               have f4 := hpq.1
               replace hpq := hpq.2
               clear hpq
               replace f4 : vals 4 = _ := f4
               simp only [List.getD_cons_zero, List.getD_cons_succ, canonP, f4]
               clear f4
               simp only [Oper.gives]
               go_simp
               exact (HFI.out wq).mono fun e w' ⟨he, hg⟩ => ⟨_, he, is_mk _ _, Touch.of_below hg⟩
             intro vals wz hRwz hfwz
             simp only [AllFacts] at hfwz
             have g0 := hfwz.1
             replace hfwz := hfwz.2
             have g1 := hfwz.1
             replace hfwz := hfwz.2
             have g2 := hfwz.1
             replace hfwz := hfwz.2
             have g3 := hfwz.1
             replace hfwz := hfwz.2
             have g4 := hfwz.1
             replace hfwz := hfwz.2
             have g5 := hfwz.1
             replace hfwz := hfwz.2
             clear hfwz
             replace g0 : vals 0 = _ := g0
             replace g1 : vals 1 = _ := g1
             replace g2 : vals 2 = _ := g2
             replace g3 : vals 3 = _ := g3
             replace g4 : vals 4 = _ := g4
             replace g5 : vals 5 = _ := g5
             simp only [List.drop_succ_cons, List.drop_zero]
             simp only [canonP, Act.put, List.setIfInBounds_toArray, List.set_cons_succ, List.set_cons_zero, g0, g1, g2, g3, g4, g5]
             clear g0 g1 g2 g3 g4 g5
             have HTW := Lib.hid ((Touch.drew [] W1).trans hRwz (by simp))
             have HIa := Lib.hid (HI.out.later (HTW.out.below (Nat.le_refl _) (by simp)))
             clear hRwz
             go_wp2_with fail
             refine (cwrite_ok HIa.out.cache (by omega) c (by rw [HIa.out.good.safe]; exact hcN) x HX.out).mono ?_
             intro e w5 hpost
             obtain ⟨he, hc5, ht5⟩ := hpost
             subst he
             have HTN := Lib.hid (HI.out.tells.write c hcN HX.out)
             have HR5 := Lib.hid (HIa.out.row.kept ht5 (fun g e => by cases e; exact HIa.out.out))
             have HG5 := Lib.hid (show Grow w w5 from Below.trans HIa.out.grow (ht5.below HIa.out.grow.size HIa.out.lo))
             have HPU := Lib.hid (show PA ∉ U1 from HPN.out)
             have HCC := Lib.hid hc5
             have HP1' := Lib.hid ((ht5.cell (a := ⟨PA, 1, none⟩) (Nat.lt_of_lt_of_le HPA.out HTW.out.size) HPN.out).trans ((HTW.out.cell (a := ⟨PA, 1, none⟩) HPA.out (by simp)).trans HP1.out))
             have HP2' := Lib.hid ((ht5.cell (a := ⟨PA, 2, none⟩) (Nat.lt_of_lt_of_le HPA.out HTW.out.size) HPN.out).trans ((HTW.out.cell (a := ⟨PA, 2, none⟩) HPA.out (by simp)).trans HP2.out))
             have HPA' := Lib.hid (Nat.lt_of_lt_of_le HPA.out (Nat.le_trans HTW.out.size ht5.size))
             have HGD := Lib.hid (HI.out.good.put (putF s.f c (x, true)))
             have HOO := Lib.hid (⟨HI.out.out, HI.out.lo, HI.out.low⟩ : _ ∧ _ ∧ _)
             have HLM := Lib.hid (show c < m.length by rw [HI.out.tells.len]; exact hcN)
             clear hc5 ht5 HP1 HP2 HPA HI HIa HTW
             have HP1 := HP1'
             have HP2 := HP2'
             have HPA := HPA'
             go_upto_region 19 with (fail)
             refine wp_region_facts_tail 7 (by kernel_rfl) (by kernel_rfl) [[], [], [(1, some 74)], [], [(3, some 76)], [(4, some 77)], [(0, some 73), (1, some 74), (2, some 75), (3, some 76), (4, some 77), (5, some 78)]] [(0, some 73), (1, some 74), (2, some 75), (3, some 76), (4, some 77), (5, some 78), (6, some 79)] (by kernel_rfl) (by kernel_rfl) (by kernel_rfl) (Touch []) (Touch.refl []) (fun _ _ _ h h' => h.trans h' (fun i hi => .inl hi)) [Is (Value.slice (some ⟨gm, 0, none⟩) N N), Is (Value.pointer (some ⟨PA, 1, none⟩)), Is (Value.int .i64 (c : Int)), Is (Value.pointer (some ⟨PA, 2, none⟩)), Is (Value.int .u32 (f : Int)), Is (Value.agg (bc x).toArray), Is (Value.pointer (some ⟨gm, c * 256, none⟩))] rfl ⟨is_stab _ _, is_stab _ _, is_stab _ _, is_stab _ _, is_stab _ _, is_stab _ _, is_stab _ _, trivial⟩ ⟨?o0, ?o1, ?o2, ?o3, ?o4, ?o5, ?o6, trivial⟩ ?_
             case o0 =>
               intro vals wq hRq hpq
               simp only [List.getD_cons_zero, List.getD_cons_succ, canonP]
               simp only [Oper.gives]
               go_simp
               exact ⟨is_mk _ _, (Touch.refl []) _⟩
             case o1 =>
               intro vals wq hRq hpq
               simp only [List.getD_cons_zero, List.getD_cons_succ, canonP]
               simp only [Oper.gives]
               go_simp
               exact ⟨is_mk _ _, Touch.refl _ _⟩
             case o2 =>
               intro vals wq hRq hpq
               simp only [factsP, List.getD_cons_zero, List.getD_cons_succ] at hpq
               have f1 := hpq.1
               replace hpq := hpq.2
               clear hpq
               replace f1 : vals 1 = _ := f1
               simp only [List.getD_cons_zero, List.getD_cons_succ, canonP, f1]
               clear f1
               have hcc : wq.cell? ⟨PA, 1, none⟩ = some (.int .i64 (c : Int)) := (Touch.cell ((Touch.drew [] _).trans hRq (by simp)) HPA.out (by simp)).trans HP1.out
               simp only [Oper.gives]
               go_simp
               exact ⟨is_mk _ _, Touch.refl _ _⟩
             case o3 =>
               intro vals wq hRq hpq
               simp only [List.getD_cons_zero, List.getD_cons_succ, canonP]
               simp only [Oper.gives]
               go_simp
               exact ⟨is_mk _ _, Touch.refl _ _⟩
             case o4 =>
               intro vals wq hRq hpq
               simp only [factsP, List.getD_cons_zero, List.getD_cons_succ] at hpq
               have f3 := hpq.1
               replace hpq := hpq.2
               clear hpq
               replace f3 : vals 3 = _ := f3
               simp only [List.getD_cons_zero, List.getD_cons_succ, canonP, f3]
               clear f3
               have hcc : wq.cell? ⟨PA, 2, none⟩ = some (.int .u32 (f : Int)) := (Touch.cell ((Touch.drew [] _).trans hRq (by simp)) HPA.out (by simp)).trans HP2.out
               simp only [Oper.gives]
               go_simp
               exact ⟨is_mk _ _, Touch.refl _ _⟩
             case o5 =>
               intro vals wq hRq hpq
               simp only [factsP, List.getD_cons_zero, List.getD_cons_succ] at hpq
               have f4 := hpq.1
               replace hpq := hpq.2
               clear hpq
               replace f4 : vals 4 = _ := f4
               simp only [List.getD_cons_zero, List.getD_cons_succ, canonP, f4]
               clear f4
               simp only [Oper.gives]
               go_simp
               exact (HFI.out wq).mono fun e w' ⟨he, hg⟩ => ⟨_, he, is_mk _ _, Touch.of_below hg⟩
             case o6 =>
               intro vals wq hRq hpq
               simp only [factsP, List.getD_cons_zero, List.getD_cons_succ] at hpq
               have f0 := hpq.1
               replace hpq := hpq.2
               have f1 := hpq.1
               replace hpq := hpq.2
               have f2 := hpq.1
               replace hpq := hpq.2
               have f3 := hpq.1
               replace hpq := hpq.2
               have f4 := hpq.1
               replace hpq := hpq.2
               have f5 := hpq.1
               replace hpq := hpq.2
               clear hpq
               replace f0 : vals 0 = _ := f0
               replace f1 : vals 1 = _ := f1
               replace f2 : vals 2 = _ := f2
               replace f3 : vals 3 = _ := f3
               replace f4 : vals 4 = _ := f4
               replace f5 : vals 5 = _ := f5
               simp only [List.getD_cons_zero, List.getD_cons_succ, canonP, f0, f1, f2, f3, f4, f5]
               clear f0 f1 f2 f3 f4 f5
               have hb0 : (0 : Int) ≤ (c : Int) := by omega
               have hb1 : (c : Int) < (N : Int) := by omega
               simp only [Oper.gives]
               go_simp
               exact ⟨is_mk _ _, Touch.refl _ _⟩
             intro vals wz hRwz hfwz
             simp only [AllFacts] at hfwz
             have g0 := hfwz.1
             replace hfwz := hfwz.2
             have g1 := hfwz.1
             replace hfwz := hfwz.2
             have g2 := hfwz.1
             replace hfwz := hfwz.2
             have g3 := hfwz.1
             replace hfwz := hfwz.2
             have g4 := hfwz.1
             replace hfwz := hfwz.2
             have g5 := hfwz.1
             replace hfwz := hfwz.2
             have g6 := hfwz.1
             replace hfwz := hfwz.2
             clear hfwz
             replace g0 : vals 0 = _ := g0
             replace g1 : vals 1 = _ := g1
             replace g2 : vals 2 = _ := g2
             replace g3 : vals 3 = _ := g3
             replace g4 : vals 4 = _ := g4
             replace g5 : vals 5 = _ := g5
             replace g6 : vals 6 = _ := g6
             simp only [List.drop_succ_cons, List.drop_zero]
             simp only [canonP, Act.put, List.setIfInBounds_toArray, List.set_cons_succ, List.set_cons_zero, g0, g1, g2, g3, g4, g5, g6]
             clear g0 g1 g2 g3 g4 g5 g6
             have hgz : Grow w5 wz := ((Touch.drew [] w5).trans hRwz (by simp)).below (Nat.le_refl _) (by simp)
             have HRz := Lib.hid (HR5.out.kept (Touch.of_below (S := []) hgz) (by simp))
             have HTH := Lib.hid (show wz.there gm (c * 256) (bc x).toArray.size by rw [List.size_toArray, bc_length, HX.out]; exact HRz.out.there (by rw [List.length_map]; exact HLM.out))
             have htc : Touch [gm] wz (wz.setCells gm (c * 256) (bc x)) := touch_setCells (by simp) _ _ _
             have HI := Lib.hid (show UState N (nn + 1) w C B gm U1 { s with f := putF s.f c (x, true) } (m.set c x) (wz.setCells gm (c * 256) (bc x)) from
               { cache := (HCC.out.grow hgz).kept htc (fun k hk hm => HOO.out.1 (List.mem_singleton.1 hm ▸ hk))
                 good := HGD.out
                 tells := HTN.out
                 row := HRz.out.storeB HX.out HLM.out
                 out := HOO.out.1
                 lo := HOO.out.2.1
                 low := HOO.out.2.2
                 grow := Below.trans (HG5.out.trans hgz) (htc.below (HG5.out.trans hgz).size (fun j hj => by rw [List.mem_singleton.1 hj]; exact HOO.out.2.2)) })
             have HSx := Lib.hid (bsize HX.out)
             clear hRwz hgz htc
             refine wpList_store_mid rfl 32 _ _ rfl gm (c * 256) (bc x).toArray rfl rfl HTH.out HSx.out (all_oneCell_toArray (bc_one _)) ?_
             generalize wz.setCells gm (c * 256) (bc x) = W6 at *
             clear HTH HRz HR5 HG5 HTN HP1 HP2 HPA HCC HP1' HP2' HPA'
             generalize m.set c x = m1 at *
             go_wp2_with fail
             go_meet
             case rel => exact ⟨_, _, _, _, by omega, HI⟩
           · go_upto_region 17 with (fail)
             refine wp_region_facts_tail 6 (by kernel_rfl) (by kernel_rfl) [[], [], [(1, some 65)], [], [(3, some 67)], [(4, some 68)]] [(0, some 64), (1, some 65), (2, some 66), (3, some 67), (4, some 68), (5, some 69)] (by kernel_rfl) (by kernel_rfl) (by kernel_rfl) (Touch []) (Touch.refl []) (fun _ _ _ h h' => h.trans h' (fun i hi => .inl hi)) [Is (Value.pointer (some ⟨C, 0, none⟩)), Is (Value.pointer (some ⟨PA, 1, none⟩)), Is (Value.int .i64 b), Is (Value.pointer (some ⟨PA, 2, none⟩)), Is (Value.int .u32 (f : Int)), Is (Value.agg (bc x).toArray)] rfl ⟨is_stab _ _, is_stab _ _, is_stab _ _, is_stab _ _, is_stab _ _, is_stab _ _, trivial⟩ ⟨?o0, ?o1, ?o2, ?o3, ?o4, ?o5, trivial⟩ ?_
             case o0 =>
               intro vals wq hRq hpq
               simp only [List.getD_cons_zero, List.getD_cons_succ, canonP]
               simp only [Oper.gives]
               go_simp
               exact ⟨is_mk _ _, (Touch.refl []) _⟩
             case o1 =>
               intro vals wq hRq hpq
               simp only [List.getD_cons_zero, List.getD_cons_succ, canonP]
               simp only [Oper.gives]
               go_simp
               exact ⟨is_mk _ _, Touch.refl _ _⟩
             case o2 =>
               intro vals wq hRq hpq
               simp only [factsP, List.getD_cons_zero, List.getD_cons_succ] at hpq
               have f1 := hpq.1
               replace hpq := hpq.2
               clear hpq
               replace f1 : vals 1 = _ := f1
               simp only [List.getD_cons_zero, List.getD_cons_succ, canonP, f1]
               clear f1
               have hcc : wq.cell? ⟨PA, 1, none⟩ = some (.int .i64 b) := (Touch.cell ((Touch.drew [] _).trans hRq (by simp)) HPA.out (by simp)).trans HP1.out
               simp only [Oper.gives]
               go_simp
               exact ⟨is_mk _ _, Touch.refl _ _⟩
             case o3 =>
               intro vals wq hRq hpq
               simp only [List.getD_cons_zero, List.getD_cons_succ, canonP]
               simp only [Oper.gives]
               go_simp
               exact ⟨is_mk _ _, Touch.refl _ _⟩
             case o4 =>
               intro vals wq hRq hpq
               simp only [factsP, List.getD_cons_zero, List.getD_cons_succ] at hpq
               have f3 := hpq.1
               replace hpq := hpq.2
               clear hpq
               replace f3 : vals 3 = _ := f3
               simp only [List.getD_cons_zero, List.getD_cons_succ, canonP, f3]
               clear f3
               have hcc : wq.cell? ⟨PA, 2, none⟩ = some (.int .u32 (f : Int)) := (Touch.cell ((Touch.drew [] _).trans hRq (by simp)) HPA.out (by simp)).trans HP2.out
               simp only [Oper.gives]
               go_simp
               exact ⟨is_mk _ _, Touch.refl _ _⟩
             case o5 =>
               intro vals wq hRq hpq
               simp only [factsP, List.getD_cons_zero, List.getD_cons_succ] at hpq
               have f4 := hpq.1
               replace hpq := hpq.2
               clear hpq
               replace f4 : vals 4 = _ := f4
               simp only [List.getD_cons_zero, List.getD_cons_succ, canonP, f4]
               clear f4
               simp only [Oper.gives]
               go_simp
               exact (HFI.out wq).mono fun e w' ⟨he, hg⟩ => ⟨_, he, is_mk _ _, Touch.of_below hg⟩
             intro vals wz hRwz hfwz
             simp only [AllFacts] at hfwz
             have g0 := hfwz.1
             replace hfwz := hfwz.2
             have g1 := hfwz.1
             replace hfwz := hfwz.2
             have g2 := hfwz.1
             replace hfwz := hfwz.2
             have g3 := hfwz.1
             replace hfwz := hfwz.2
             have g4 := hfwz.1
             replace hfwz := hfwz.2
             have g5 := hfwz.1
             replace hfwz := hfwz.2
             clear hfwz
             replace g0 : vals 0 = _ := g0
             replace g1 : vals 1 = _ := g1
             replace g2 : vals 2 = _ := g2
             replace g3 : vals 3 = _ := g3
             replace g4 : vals 4 = _ := g4
             replace g5 : vals 5 = _ := g5
             simp only [List.drop_succ_cons, List.drop_zero]
             simp only [canonP, Act.put, List.setIfInBounds_toArray, List.set_cons_succ, List.set_cons_zero, g0, g1, g2, g3, g4, g5]
             clear g0 g1 g2 g3 g4 g5
             have HTW := Lib.hid ((Touch.drew [] W1).trans hRwz (by simp))
             have HIa := Lib.hid (HI.out.later (HTW.out.below (Nat.le_refl _) (by simp)))
             clear hRwz
             have HNO := Lib.hid hno
             clear hno
             go_wp2_with fail
             refine (cwrite_no HIa.out.cache b HNO.out x).mono ?_
             intro e w5 hpost
             obtain ⟨he, hg5⟩ := hpost
             subst he
             have HI5 := Lib.hid (HIa.out.later hg5)
             clear hg5 HI HIa HTW HP1 HP2 HPA
             have HI := HI5
             clear HI5
             go_wp2_with fail
             go_meet
             case rel => exact ⟨_, _, _, _, by omega, HI⟩
         · -- 1
           rcases ask_cases HI.out.good b with ⟨c, hbc, hcN, _⟩ | hno
           · subst hbc
             go_upto_region 17 with (fail)
             refine wp_region_facts_tail 6 (by kernel_rfl) (by kernel_rfl) [[], [], [(1, some 65)], [], [(3, some 67)], [(4, some 68)]] [(0, some 64), (1, some 65), (2, some 66), (3, some 67), (4, some 68), (5, some 69)] (by kernel_rfl) (by kernel_rfl) (by kernel_rfl) (Touch []) (Touch.refl []) (fun _ _ _ h h' => h.trans h' (fun i hi => .inl hi)) [Is (Value.pointer (some ⟨C, 0, none⟩)), Is (Value.pointer (some ⟨PA, 1, none⟩)), Is (Value.int .i64 (c : Int)), Is (Value.pointer (some ⟨PA, 2, none⟩)), Is (Value.int .u32 (f : Int)), Is (Value.agg (bc x).toArray)] rfl ⟨is_stab _ _, is_stab _ _, is_stab _ _, is_stab _ _, is_stab _ _, is_stab _ _, trivial⟩ ⟨?o0, ?o1, ?o2, ?o3, ?o4, ?o5, trivial⟩ ?_
             case o0 =>
               intro vals wq hRq hpq
               simp only [List.getD_cons_zero, List.getD_cons_succ, canonP]
               simp only [Oper.gives]
               go_simp
               exact ⟨is_mk _ _, (Touch.refl []) _⟩
             case o1 =>
               intro vals wq hRq hpq
               simp only [List.getD_cons_zero, List.getD_cons_succ, canonP]
               simp only [Oper.gives]
               go_simp
               exact ⟨is_mk _ _, Touch.refl _ _⟩
             case o2 =>
               intro vals wq hRq hpq
               simp only [factsP, List.getD_cons_zero, List.getD_cons_succ] at hpq
               have f1 := hpq.1
               replace hpq := hpq.2
               clear hpq
               replace f1 : vals 1 = _ := f1
               simp only [List.getD_cons_zero, List.getD_cons_succ, canonP, f1]
               clear f1
               have hcc : wq.cell? ⟨PA, 1, none⟩ = some (.int .i64 (c : Int)) := (Touch.cell ((Touch.drew [] _).trans hRq (by simp)) HPA.out (by simp)).trans HP1.out
               simp only [Oper.gives]
               go_simp
               exact ⟨is_mk _ _, Touch.refl _ _⟩
             case o3 =>
               intro vals wq hRq hpq
               simp only [List.getD_cons_zero, List.getD_cons_succ, canonP]
               simp only [Oper.gives]
               go_simp
               exact ⟨is_mk _ _, Touch.refl _ _⟩
             case o4 =>
               intro vals wq hRq hpq
               simp only [factsP, List.getD_cons_zero, List.getD_cons_succ] at hpq
               have f3 := hpq.1
               replace hpq := hpq.2
               clear hpq
               replace f3 : vals 3 = _ := f3
               simp only [List.getD_cons_zero, List.getD_cons_succ, canonP, f3]
               clear f3
               have hcc : wq.cell? ⟨PA, 2, none⟩ = some (.int .u32 (f : Int)) := (Touch.cell ((Touch.drew [] _).trans hRq (by simp)) HPA.out (by simp)).trans HP2.out
               simp only [Oper.gives]
               go_simp
               exact ⟨is_mk _ _, Touch.refl _ _⟩
             case o5 =>
               intro vals wq hRq hpq
               simp only [factsP, List.getD_cons_zero, List.getD_cons_succ] at hpq
               have f4 := hpq.1
               replace hpq := hpq.2
               clear hpq
               replace f4 : vals 4 = _ := f4
               simp only [List.getD_cons_zero, List.getD_cons_succ, canonP, f4]
               clear f4
               simp only [Oper.gives]
               go_simp
               exact (HFI.out wq).mono fun e w' ⟨he, hg⟩ => ⟨_, he, is_mk _ _, Touch.of_below hg⟩
             intro vals wz hRwz hfwz
             simp only [AllFacts] at hfwz
             have g0 := hfwz.1
             replace hfwz := hfwz.2
             have g1 := hfwz.1
             replace hfwz := hfwz.2
             have g2 := hfwz.1
             replace hfwz := hfwz.2
             have g3 := hfwz.1
             replace hfwz := hfwz.2
             have g4 := hfwz.1
             replace hfwz := hfwz.2
             have g5 := hfwz.1
             replace hfwz := hfwz.2
             clear hfwz
             replace g0 : vals 0 = _ := g0
             replace g1 : vals 1 = _ := g1
             replace g2 : vals 2 = _ := g2
             replace g3 : vals 3 = _ := g3
             replace g4 : vals 4 = _ := g4
             replace g5 : vals 5 = _ := g5
             simp only [List.drop_succ_cons, List.drop_zero]
             simp only [canonP, Act.put, List.setIfInBounds_toArray, List.set_cons_succ, List.set_cons_zero, g0, g1, g2, g3, g4, g5]
             clear g0 g1 g2 g3 g4 g5
             have HTW := Lib.hid ((Touch.drew [] W1).trans hRwz (by simp))
             have HIa := Lib.hid (HI.out.later (HTW.out.below (Nat.le_refl _) (by simp)))
             clear hRwz
             go_wp2_with fail
             refine (cwrite_ok HIa.out.cache (by omega) c (by rw [HIa.out.good.safe]; exact hcN) x HX.out).mono ?_
             intro e w5 hpost
             obtain ⟨he, hc5, ht5⟩ := hpost
             subst he
             have HTN := Lib.hid (HI.out.tells.write c hcN HX.out)
             have HR5 := Lib.hid (HIa.out.row.kept ht5 (fun g e => by cases e; exact HIa.out.out))
             have HG5 := Lib.hid (show Grow w w5 from Below.trans HIa.out.grow (ht5.below HIa.out.grow.size HIa.out.lo))
             have HPU := Lib.hid (show PA ∉ U1 from HPN.out)
             have HCC := Lib.hid hc5
             have HP1' := Lib.hid ((ht5.cell (a := ⟨PA, 1, none⟩) (Nat.lt_of_lt_of_le HPA.out HTW.out.size) HPN.out).trans ((HTW.out.cell (a := ⟨PA, 1, none⟩) HPA.out (by simp)).trans HP1.out))
             have HP2' := Lib.hid ((ht5.cell (a := ⟨PA, 2, none⟩) (Nat.lt_of_lt_of_le HPA.out HTW.out.size) HPN.out).trans ((HTW.out.cell (a := ⟨PA, 2, none⟩) HPA.out (by simp)).trans HP2.out))
             have HPA' := Lib.hid (Nat.lt_of_lt_of_le HPA.out (Nat.le_trans HTW.out.size ht5.size))
             have HGD := Lib.hid (HI.out.good.put (putF s.f c (x, true)))
             have HOO := Lib.hid (⟨HI.out.out, HI.out.lo, HI.out.low⟩ : _ ∧ _ ∧ _)
             have HLM := Lib.hid (show c < m.length by rw [HI.out.tells.len]; exact hcN)
             clear hc5 ht5 HP1 HP2 HPA HI HIa HTW
             have HP1 := HP1'
             have HP2 := HP2'
             have HPA := HPA'
             go_upto_region 19 with (fail)
             refine wp_region_facts_tail 7 (by kernel_rfl) (by kernel_rfl) [[], [], [(1, some 74)], [], [(3, some 76)], [(4, some 77)], [(0, some 73), (1, some 74), (2, some 75), (3, some 76), (4, some 77), (5, some 78)]] [(0, some 73), (1, some 74), (2, some 75), (3, some 76), (4, some 77), (5, some 78), (6, some 79)] (by kernel_rfl) (by kernel_rfl) (by kernel_rfl) (Touch []) (Touch.refl []) (fun _ _ _ h h' => h.trans h' (fun i hi => .inl hi)) [Is (Value.slice (some ⟨gm, 0, none⟩) N N), Is (Value.pointer (some ⟨PA, 1, none⟩)), Is (Value.int .i64 (c : Int)), Is (Value.pointer (some ⟨PA, 2, none⟩)), Is (Value.int .u32 (f : Int)), Is (Value.agg (bc x).toArray), Is (Value.pointer (some ⟨gm, c * 256, none⟩))] rfl ⟨is_stab _ _, is_stab _ _, is_stab _ _, is_stab _ _, is_stab _ _, is_stab _ _, is_stab _ _, trivial⟩ ⟨?o0, ?o1, ?o2, ?o3, ?o4, ?o5, ?o6, trivial⟩ ?_
             case o0 =>
               intro vals wq hRq hpq
               simp only [List.getD_cons_zero, List.getD_cons_succ, canonP]
               simp only [Oper.gives]
               go_simp
               exact ⟨is_mk _ _, (Touch.refl []) _⟩
             case o1 =>
               intro vals wq hRq hpq
               simp only [List.getD_cons_zero, List.getD_cons_succ, canonP]
               simp only [Oper.gives]
               go_simp
               exact ⟨is_mk _ _, Touch.refl _ _⟩
             case o2 =>
               intro vals wq hRq hpq
               simp only [factsP, List.getD_cons_zero, List.getD_cons_succ] at hpq
               have f1 := hpq.1
               replace hpq := hpq.2
               clear hpq
               replace f1 : vals 1 = _ := f1
               simp only [List.getD_cons_zero, List.getD_cons_succ, canonP, f1]
               clear f1
               have hcc : wq.cell? ⟨PA, 1, none⟩ = some (.int .i64 (c : Int)) := (Touch.cell ((Touch.drew [] _).trans hRq (by simp)) HPA.out (by simp)).trans HP1.out
               simp only [Oper.gives]
               go_simp
               exact ⟨is_mk _ _, Touch.refl _ _⟩
             case o3 =>
               intro vals wq hRq hpq
               simp only [List.getD_cons_zero, List.getD_cons_succ, canonP]
               simp only [Oper.gives]
               go_simp
               exact ⟨is_mk _ _, Touch.refl _ _⟩
             case o4 =>
               intro vals wq hRq hpq
               simp only [factsP, List.getD_cons_zero, List.getD_cons_succ] at hpq
               have f3 := hpq.1
               replace hpq := hpq.2
               clear hpq
               replace f3 : vals 3 = _ := f3
               simp only [List.getD_cons_zero, List.getD_cons_succ, canonP, f3]
               clear f3
               have hcc : wq.cell? ⟨PA, 2, none⟩ = some (.int .u32 (f : Int)) := (Touch.cell ((Touch.drew [] _).trans hRq (by simp)) HPA.out (by simp)).trans HP2.out
               simp only [Oper.gives]
               go_simp
               exact ⟨is_mk _ _, Touch.refl _ _⟩
             case o5 =>
               intro vals wq hRq hpq
               simp only [factsP, List.getD_cons_zero, List.getD_cons_succ] at hpq
               have f4 := hpq.1
               replace hpq := hpq.2
               clear hpq
               replace f4 : vals 4 = _ := f4
               simp only [List.getD_cons_zero, List.getD_cons_succ, canonP, f4]
               clear f4
               simp only [Oper.gives]
               go_simp
               exact (HFI.out wq).mono fun e w' ⟨he, hg⟩ => ⟨_, he, is_mk _ _, Touch.of_below hg⟩
             case o6 =>
               intro vals wq hRq hpq
               simp only [factsP, List.getD_cons_zero, List.getD_cons_succ] at hpq
               have f0 := hpq.1
               replace hpq := hpq.2
               have f1 := hpq.1
               replace hpq := hpq.2
               have f2 := hpq.1
               replace hpq := hpq.2
               have f3 := hpq.1
               replace hpq := hpq.2
               have f4 := hpq.1
               replace hpq := hpq.2
               have f5 := hpq.1
               replace hpq := hpq.2
               clear hpq
               replace f0 : vals 0 = _ := f0
               replace f1 : vals 1 = _ := f1
               replace f2 : vals 2 = _ := f2
               replace f3 : vals 3 = _ := f3
               replace f4 : vals 4 = _ := f4
               replace f5 : vals 5 = _ := f5
               simp only [List.getD_cons_zero, List.getD_cons_succ, canonP, f0, f1, f2, f3, f4, f5]
               clear f0 f1 f2 f3 f4 f5
               have hb0 : (0 : Int) ≤ (c : Int) := by omega
               have hb1 : (c : Int) < (N : Int) := by omega
               simp only [Oper.gives]
               go_simp
               exact ⟨is_mk _ _, Touch.refl _ _⟩
             intro vals wz hRwz hfwz
             simp only [AllFacts] at hfwz
             have g0 := hfwz.1
             replace hfwz := hfwz.2
             have g1 := hfwz.1
             replace hfwz := hfwz.2
             have g2 := hfwz.1
             replace hfwz := hfwz.2
             have g3 := hfwz.1
             replace hfwz := hfwz.2
             have g4 := hfwz.1
             replace hfwz := hfwz.2
             have g5 := hfwz.1
             replace hfwz := hfwz.2
             have g6 := hfwz.1
             replace hfwz := hfwz.2
             clear hfwz
             replace g0 : vals 0 = _ := g0
             replace g1 : vals 1 = _ := g1
             replace g2 : vals 2 = _ := g2
             replace g3 : vals 3 = _ := g3
             replace g4 : vals 4 = _ := g4
             replace g5 : vals 5 = _ := g5
             replace g6 : vals 6 = _ := g6
             simp only [List.drop_succ_cons, List.drop_zero]
             simp only [canonP, Act.put, List.setIfInBounds_toArray, List.set_cons_succ, List.set_cons_zero, g0, g1, g2, g3, g4, g5, g6]
             clear g0 g1 g2 g3 g4 g5 g6
             have hgz : Grow w5 wz := ((Touch.drew [] w5).trans hRwz (by simp)).below (Nat.le_refl _) (by simp)
             have HRz := Lib.hid (HR5.out.kept (Touch.of_below (S := []) hgz) (by simp))
             have HTH := Lib.hid (show wz.there gm (c * 256) (bc x).toArray.size by rw [List.size_toArray, bc_length, HX.out]; exact HRz.out.there (by rw [List.length_map]; exact HLM.out))
             have htc : Touch [gm] wz (wz.setCells gm (c * 256) (bc x)) := touch_setCells (by simp) _ _ _
             have HI := Lib.hid (show UState N (nn + 1) w C B gm U1 { s with f := putF s.f c (x, true) } (m.set c x) (wz.setCells gm (c * 256) (bc x)) from
               { cache := (HCC.out.grow hgz).kept htc (fun k hk hm => HOO.out.1 (List.mem_singleton.1 hm ▸ hk))
                 good := HGD.out
                 tells := HTN.out
                 row := HRz.out.storeB HX.out HLM.out
                 out := HOO.out.1
                 lo := HOO.out.2.1
                 low := HOO.out.2.2
                 grow := Below.trans (HG5.out.trans hgz) (htc.below (HG5.out.trans hgz).size (fun j hj => by rw [List.mem_singleton.1 hj]; exact HOO.out.2.2)) })
             have HSx := Lib.hid (bsize HX.out)
             clear hRwz hgz htc
             refine wpList_store_mid rfl 32 _ _ rfl gm (c * 256) (bc x).toArray rfl rfl HTH.out HSx.out (all_oneCell_toArray (bc_one _)) ?_
             generalize wz.setCells gm (c * 256) (bc x) = W6 at *
             clear HTH HRz HR5 HG5 HTN HP1 HP2 HPA HCC HP1' HP2' HPA'
             generalize m.set c x = m1 at *
             go_wp2_with fail
             go_meet
             case rel => exact ⟨_, _, _, _, by omega, HI⟩
           · go_upto_region 17 with (fail)
             refine wp_region_facts_tail 6 (by kernel_rfl) (by kernel_rfl) [[], [], [(1, some 65)], [], [(3, some 67)], [(4, some 68)]] [(0, some 64), (1, some 65), (2, some 66), (3, some 67), (4, some 68), (5, some 69)] (by kernel_rfl) (by kernel_rfl) (by kernel_rfl) (Touch []) (Touch.refl []) (fun _ _ _ h h' => h.trans h' (fun i hi => .inl hi)) [Is (Value.pointer (some ⟨C, 0, none⟩)), Is (Value.pointer (some ⟨PA, 1, none⟩)), Is (Value.int .i64 b), Is (Value.pointer (some ⟨PA, 2, none⟩)), Is (Value.int .u32 (f : Int)), Is (Value.agg (bc x).toArray)] rfl ⟨is_stab _ _, is_stab _ _, is_stab _ _, is_stab _ _, is_stab _ _, is_stab _ _, trivial⟩ ⟨?o0, ?o1, ?o2, ?o3, ?o4, ?o5, trivial⟩ ?_
             case o0 =>
               intro vals wq hRq hpq
               simp only [List.getD_cons_zero, List.getD_cons_succ, canonP]
               simp only [Oper.gives]
               go_simp
               exact ⟨is_mk _ _, (Touch.refl []) _⟩
             case o1 =>
               intro vals wq hRq hpq
               simp only [List.getD_cons_zero, List.getD_cons_succ, canonP]
               simp only [Oper.gives]
               go_simp
               exact ⟨is_mk _ _, Touch.refl _ _⟩
             case o2 =>
               intro vals wq hRq hpq
               simp only [factsP, List.getD_cons_zero, List.getD_cons_succ] at hpq
               have f1 := hpq.1
               replace hpq := hpq.2
               clear hpq
               replace f1 : vals 1 = _ := f1
               simp only [List.getD_cons_zero, List.getD_cons_succ, canonP, f1]
               clear f1
               have hcc : wq.cell? ⟨PA, 1, none⟩ = some (.int .i64 b) := (Touch.cell ((Touch.drew [] _).trans hRq (by simp)) HPA.out (by simp)).trans HP1.out
               simp only [Oper.gives]
               go_simp
               exact ⟨is_mk _ _, Touch.refl _ _⟩
             case o3 =>
               intro vals wq hRq hpq
               simp only [List.getD_cons_zero, List.getD_cons_succ, canonP]
               simp only [Oper.gives]
               go_simp
               exact ⟨is_mk _ _, Touch.refl _ _⟩
             case o4 =>
               intro vals wq hRq hpq
               simp only [factsP, List.getD_cons_zero, List.getD_cons_succ] at hpq
               have f3 := hpq.1
               replace hpq := hpq.2
               clear hpq
               replace f3 : vals 3 = _ := f3
               simp only [List.getD_cons_zero, List.getD_cons_succ, canonP, f3]
               clear f3
               have hcc : wq.cell? ⟨PA, 2, none⟩ = some (.int .u32 (f : Int)) := (Touch.cell ((Touch.drew [] _).trans hRq (by simp)) HPA.out (by simp)).trans HP2.out
               simp only [Oper.gives]
               go_simp
               exact ⟨is_mk _ _, Touch.refl _ _⟩
             case o5 =>
               intro vals wq hRq hpq
               simp only [factsP, List.getD_cons_zero, List.getD_cons_succ] at hpq
               have f4 := hpq.1
               replace hpq := hpq.2
               clear hpq
               replace f4 : vals 4 = _ := f4
               simp only [List.getD_cons_zero, List.getD_cons_succ, canonP, f4]
               clear f4
               simp only [Oper.gives]
               go_simp
               exact (HFI.out wq).mono fun e w' ⟨he, hg⟩ => ⟨_, he, is_mk _ _, Touch.of_below hg⟩
             intro vals wz hRwz hfwz
             simp only [AllFacts] at hfwz
             have g0 := hfwz.1
             replace hfwz := hfwz.2
             have g1 := hfwz.1
             replace hfwz := hfwz.2
             have g2 := hfwz.1
             replace hfwz := hfwz.2
             have g3 := hfwz.1
             replace hfwz := hfwz.2
             have g4 := hfwz.1
             replace hfwz := hfwz.2
             have g5 := hfwz.1
             replace hfwz := hfwz.2
             clear hfwz
             replace g0 : vals 0 = _ := g0
             replace g1 : vals 1 = _ := g1
             replace g2 : vals 2 = _ := g2
             replace g3 : vals 3 = _ := g3
             replace g4 : vals 4 = _ := g4
             replace g5 : vals 5 = _ := g5
             simp only [List.drop_succ_cons, List.drop_zero]
             simp only [canonP, Act.put, List.setIfInBounds_toArray, List.set_cons_succ, List.set_cons_zero, g0, g1, g2, g3, g4, g5]
             clear g0 g1 g2 g3 g4 g5
             have HTW := Lib.hid ((Touch.drew [] W1).trans hRwz (by simp))
             have HIa := Lib.hid (HI.out.later (HTW.out.below (Nat.le_refl _) (by simp)))
             clear hRwz
             have HNO := Lib.hid hno
             clear hno
             go_wp2_with fail
             refine (cwrite_no HIa.out.cache b HNO.out x).mono ?_
             intro e w5 hpost
             obtain ⟨he, hg5⟩ := hpost
             subst he
             have HI5 := Lib.hid (HIa.out.later hg5)
             clear hg5 HI HIa HTW HP1 HP2 HPA
             have HI := HI5
             clear HI5
             go_wp2_with fail
             go_meet
             case rel => exact ⟨_, _, _, _, by omega, HI⟩
         · -- 2
           have hca := HP1.out
           go_wp2_with fail
           refine (uread HI.out.cache (by omega) HI.out.good HI.out.tells b).mono ?_
           intro e w2 hpost
           obtain ⟨⟨ve, he⟩, s2, hst, hgd, hte⟩ := hpost
           subst he
           obtain ⟨U2, hI2, _⟩ := HI.out.step (by omega) hst hgd hte
           have HI2 := Lib.hid hI2
           clear hst hgd hte hI2 hca HI
           have HI := HI2
           clear HI2
           go_wp2_with fail
           go_meet
           case rel => exact ⟨_, _, _, _, by omega, HI⟩
         · -- 3
           have hca := HP1.out
           go_wp2_with fail
           refine (uback HI.out.cache (by omega) HI.out.good HI.out.tells HI.out.lens b).mono ?_
           intro e w2 hpost
           obtain ⟨⟨ve, he⟩, s2, hst, hgd, hte⟩ := hpost
           subst he
           obtain ⟨U2, hI2, _⟩ := HI.out.step (by omega) hst hgd hte
           have HI2 := Lib.hid hI2
           clear hst hgd hte hI2 hca HI
           have HI := HI2
           clear HI2
           go_wp2_with fail
           go_meet
           case rel => exact ⟨_, _, _, _, by omega, HI⟩
         · -- 4
           go_wp2_with fail
           go_meet
           case rel => exact ⟨_, _, _, _, by omega, HI⟩
         · -- 5
           have hca := HP1.out
           go_wp2_with fail
           refine (upin HI.out.cache (by omega) HI.out.good HI.out.tells b HBO.out true).mono ?_
           intro e w2 hpost
           obtain ⟨⟨ve, he⟩, s2, hst, hgd, hte⟩ := hpost
           subst he
           obtain ⟨U2, hI2, _⟩ := HI.out.step (by omega) hst hgd hte
           have HI2 := Lib.hid hI2
           clear hst hgd hte hI2 hca HI
           have HI := HI2
           clear HI2
           go_wp2_with fail
           go_meet
           case rel => exact ⟨_, _, _, _, by omega, HI⟩
         · -- 6
           have hca := HP1.out
           go_wp2_with fail
           refine (upin HI.out.cache (by omega) HI.out.good HI.out.tells b HBO.out false).mono ?_
           intro e w2 hpost
           obtain ⟨⟨ve, he⟩, s2, hst, hgd, hte⟩ := hpost
           subst he
           obtain ⟨U2, hI2, _⟩ := HI.out.step (by omega) hst hgd hte
           have HI2 := Lib.hid hI2
           clear hst hgd hte hI2 hca HI
           have HI := HI2
           clear HI2
           go_wp2_with fail
           go_meet
           case rel => exact ⟨_, _, _, _, by omega, HI⟩
         · -- 7
           have hca := HP1.out
           go_wp2_with fail
           refine (uwb HI.out.cache (by omega) HI.out.good HI.out.tells HI.out.lens b HBO.out).mono ?_
           intro e w2 hpost
           obtain ⟨⟨ve, he⟩, s2, hst, hgd, hte⟩ := hpost
           subst he
           obtain ⟨U2, hI2, _⟩ := HI.out.step (by omega) hst hgd hte
           have HI2 := Lib.hid hI2
           clear hst hgd hte hI2 hca HI
           have HI := HI2
           clear HI2
           go_wp2_with fail
           go_meet
           case rel => exact ⟨_, _, _, _, by omega, HI⟩
         · -- 8
           have hca := HP1.out
           go_wp2_with fail
           refine (uev HI.out.cache HI.out.good HI.out.tells b HBO.out).mono ?_
           intro e w2 hpost
           obtain ⟨⟨ve, he⟩, s2, hst, hgd, hte⟩ := hpost
           subst he
           obtain ⟨U2, hI2, _⟩ := HI.out.step (by omega) hst hgd hte
           have HI2 := Lib.hid hI2
           clear hst hgd hte hI2 hca HI
           have HI := HI2
           clear HI2
           go_wp2_with fail
           go_meet
           case rel => exact ⟨_, _, _, _, by omega, HI⟩
         · -- 9
           have hca := HP1.out
           go_wp2_with fail
           refine (usync HI.out.cache (by omega) h2 HI.out.good HI.out.tells HI.out.lens).mono ?_
           intro e w2 hpost
           obtain ⟨⟨ve, he⟩, s2, hst, hgd, hte⟩ := hpost
           subst he
           obtain ⟨U2, hI2, _⟩ := HI.out.step (by omega) hst hgd hte
           have HI2 := Lib.hid hI2
           clear hst hgd hte hI2 hca HI
           have HI := HI2
           clear HI2
           go_wp2_with fail
           go_meet
           case rel => exact ⟨_, _, _, _, by omega, HI⟩
         · -- 10
           go_wp2_with fail
           go_meet
           case rel => exact ⟨_, _, _, _, by omega, HI⟩
         · -- 11
           go_wp2_with fail
           go_meet
           case rel => exact ⟨_, _, _, _, by omega, HI⟩
      · obtain rfl : L = i := by omega
        have HI := HIr
        have HSF := Lib.hid (sync_safe HI.out.good HI.out.tells HI.out.lens)
        have HSD := Lib.hid (sync_dirty HI.out.good)
        have HML := Lib.hid HI.out.tells.len
        go_wp2_with fail
        refine (sync_ok HI.out.cache (by omega) HI.out.good (by omega)).mono ?_
        intro e w2 hpost
        obtain ⟨he, hst⟩ := hpost
        subst he
        obtain ⟨U2, hI2, _⟩ := HI.out.step (n' := nn + 66) (by omega) (hst.mono (by omega)) (HI.out.good.sync.more (by omega)) (HI.out.tells.sync HI.out.good.safe HI.out.lens)
        have HI2 := Lib.hid hI2
        obtain ⟨S2, hdk, hSU⟩ := hI2.cache.disk
        have HSA := Lib.hid (by have := safe_ok hdk; rw [HSF.out] at this; exact this)
        clear hst hI2 hdk hSU HI HIr
        go_wp2_with fail
        refine HSA.out.mono ?_
        intro e w3 hpost
        obtain ⟨gs, cs, he, hrs, hgs, hg3⟩ := hpost
        rw [HML.out] at he hrs
        subst he
        have HI3 := Lib.hid (HI2.out.later hg3)
        have HRS := Lib.hid hrs
        have HNS := Lib.hid (show gs ∉ U2 from fun hm => by have := HI2.out.cache.lt _ hm; omega)
        have HDI := Lib.hid (by have := dirty_ok HI3.out.cache; unfold SelPost at this; rw [HI3.out.good.safe, HSD.out] at this; exact this)
        clear hrs hgs hg3 HI2 HSA
        go_wp2_with fail
        refine HDI.out.mono ?_
        intro e w4 hpost
        obtain ⟨v4, he, hr4, hg4, _⟩ := hpost
        obtain ⟨a4, c4, hv4⟩ := hr4.len
        subst hv4
        subst he
        have HI4 := Lib.hid (HI3.out.later hg4)
        have HRS4 := Lib.hid (HRS.out.kept (Touch.of_below (S := []) hg4) (by simp))
        obtain ⟨S4, hdk4, _⟩ := HI4.out.cache.disk
        have HWT := Lib.hid (show Calls Try.prog 31 #[.pointer (some ⟨B, 0, none⟩)] w4 fun e w' => e = .returned (.int .i64 0) ∧ w4 = w' from waiting_any hdk4)
        clear hr4 hg4 HI3 HRS HDI hdk4
        go_wp2_with fail
        refine HWT.out.mono ?_
        rintro e w' ⟨rfl, rfl⟩
        go_wp2_with fail
        go_loopw [17] (fun t17 wq => ∃ (j n2 : Nat), j ≤ N ∧ n2 ≤ nn + 66 + j ∧ t17 = .int .i64 (j : Int) ∧ ∃ U3 s3, Hid (UState N n2 w C B gm U3 s3 m wq) ∧ Hid (Row wq 32 256 (.slice (some ⟨gs, 0, none⟩) N cs) (m.map bc)) ∧ Hid (gs ∉ U3)) (fun t17 _ => N - (intOf t17).toNat)
        case atStart => exact ⟨0, _, by omega, by omega, rfl, _, _, HI4, HRS4, HNS⟩
        case round =>
          obtain ⟨j, n2, hj, hn2, rfl, U3, s3, HI, HRSj, HNSj⟩ := hrel
          by_cases hjN : j < N
          · have hj0 : (0 : Int) ≤ (j : Int) := by omega
            have hj1 : (j : Int) < (N : Int) := by omega
            have hcm : j < m.length := by rw [HI.out.tells.len]; exact hjN
            obtain ⟨y, hy⟩ : ∃ y, m[j]? = some y := ⟨m[j], by simp [hcm]⟩
            have HY := Lib.hid (HI.out.tells.all y (List.mem_of_getElem? hy))
            have HRD := Lib.hid (cread_any HI.out.cache (by omega) HI.out.good HI.out.tells j hjN hy)
            have HXM := Lib.hid (show (m.map bc)[j]? = some (bc y) by rw [List.getElem?_map, hy]; rfl)
            have hz := zero32
            have hzs := zero_size
            have HSz := Lib.hid (bsize HY.out)
            have HSl := Lib.hid (show (Try.prog.info? 32).map (·.size) = some (bc y).length by rw [bc_length, HY.out]; exact size32)
            have HO := Lib.hid (show (bc y).toArray.all (·.oneCell') = true from all_oneCell_toArray (bc_one _))
            have HEQ := Lib.hid (equal32 y HY.out)
            generalize (bc zeroB).toArray = Z at *
            have HSo := Lib.hid (show Z.size = (bc y).toArray.size from hzs.trans (show 256 = (bc y).toArray.size by rw [List.size_toArray, bc_length, HY.out]))
            clear hcm hy hzs
            go_wp2_with fail
            refine HRD.out.mono ?_
            intro e w4 hpost
            obtain ⟨he, s', hst, hsd, hsp, hte, _⟩ := hpost
            subst he
            have hgs4 : Row w4 32 256 (.slice (some ⟨gs, 0, none⟩) N cs) (m.map bc) := by obtain ⟨U', _, ht, _⟩ := hst; exact HRSj.out.kept ht (fun g e => by cases e; exact HNSj.out)
            have HGS0 := Lib.hid (HRSj.out.lt (g := gs) rfl)
            obtain ⟨U2, hI4, hU4⟩ := HI.out.step (Nat.le_succ _) hst ((HI.out.good.same hsd).more (Nat.le_succ _)) hte
            have HI4 := Lib.hid hI4
            have HU4 := Lib.hid hU4
            have HNS4 := Lib.hid (show gs ∉ U2 from fun hm => by rcases hU4 gs hm with h | h; exact HNSj.out h; have := HGS0.out; omega)
            have HRS4 := Lib.hid hgs4
            clear hgs4 hst hsd hsp hte hI4 hU4
            go_upto_region 46 with (refine wpList_store_row rfl 32 _ _ rfl w4.heap.size (bc y).toArray rfl rfl 32 Z (heap_alloc_last _ _) HSz.out HSo.out HO.out ?_)
            have hg5 : Grow w4 ((w4.alloc (.cells Z 32)).setRow w4.heap.size (bc y).toArray) := below_setRow ((Below.refl _ _).alloc (Nat.le_refl _) _) (Nat.le_refl _) _
            have HI5 := Lib.hid (HI4.out.later hg5)
            have HG5 := Lib.hid hg5
            have HRS5 := Lib.hid (HRS4.out.kept (Touch.of_below (S := []) hg5) (by simp))
            have HCX := Lib.hid (show w4.heap.size < ((w4.alloc (.cells Z 32)).setRow w4.heap.size (bc y).toArray).heap.size ∧ ((w4.alloc (.cells Z 32)).setRow w4.heap.size (bc y).toArray).heap[w4.heap.size]? = some (.cells (bc y).toArray 32) from ⟨by simp, setRow_heap _ _ _ _ _ _ (heap_alloc_last _ _)⟩)
            clear hg5
            generalize (w4.alloc (.cells Z 32)).setRow w4.heap.size (bc y).toArray = W5 at *
            obtain ⟨BX, hBX⟩ : ∃ g, g = w4.heap.size := ⟨_, rfl⟩
            rw [← hBX] at HCX
            rw [← hBX]
            clear hBX
            have HRG := Lib.hid (HI5.out.row.range HXM.out)
            have HGL := Lib.hid (show gm < W5.heap.size from HI5.out.row.lt rfl)
            have HRS := Lib.hid (HRS5.out.range HXM.out)
            have HGS := Lib.hid (show gs < W5.heap.size from HRS5.out.lt rfl)
            refine wp_region_facts (by kernel_rfl) [[], [(0, some 177)], [(1, some 178)], [(2, some 179)], [(2, some 179)], [(2, some 179)], [(2, some 179), (4, some 181), (5, some 182)], [(2, some 179), (6, some 183)], [(2, some 179), (3, some 180), (7, some 184)], [(2, some 179), (8, some 185)], [(2, some 179), (9, some 186)], [(10, some 187)], [(10, some 187)], [(10, some 187), (11, some 188), (12, some 189)], [(10, some 187), (13, some 190)], [(10, some 187)], [(10, some 187)], [(10, some 187), (15, some 192), (16, some 193)], [(10, some 187), (17, some 194)], [(10, some 187), (14, some 191), (18, some 195)], [(10, some 187), (19, some 196)]] [(0, some 177), (1, some 178), (2, some 179), (3, some 180), (4, some 181), (5, some 182), (6, some 183), (7, some 184), (8, some 185), (9, some 186), (10, some 187), (11, some 188), (12, some 189), (13, some 190), (14, some 191), (15, some 192), (16, some 193), (17, some 194), (18, some 195), (19, some 196), (20, some 197)] (by kernel_rfl) (by kernel_rfl) (by kernel_rfl) (Touch []) (Touch.refl []) (fun _ _ _ h h' => h.trans h' (fun i hi => .inl hi)) [Is (Value.int .i64 0), Is (Value.bool false), Is (Value.bool false), Is (Value.agg (bc y).toArray), Is (Value.slice (some ⟨gm, 0, none⟩) N N), Is (Value.int .i64 (j : Int)), Is (Value.pointer (some ⟨gm, j * 256, none⟩)), Is (Value.agg (bc y).toArray), Is (Value.bool false), Is (Value.bool false), Is (Value.bool false), Is (Value.slice (some ⟨gs, 0, none⟩) N cs), Is (Value.int .i64 (j : Int)), Is (Value.pointer (some ⟨gs, j * 256, none⟩)), Is (Value.agg (bc y).toArray), Is (Value.slice (some ⟨gm, 0, none⟩) N N), Is (Value.int .i64 (j : Int)), Is (Value.pointer (some ⟨gm, j * 256, none⟩)), Is (Value.agg (bc y).toArray), Is (Value.bool false), Is (Value.bool false)] rfl ⟨is_stab _ _, is_stab _ _, is_stab _ _, is_stab _ _, is_stab _ _, is_stab _ _, is_stab _ _, is_stab _ _, is_stab _ _, is_stab _ _, is_stab _ _, is_stab _ _, is_stab _ _, is_stab _ _, is_stab _ _, is_stab _ _, is_stab _ _, is_stab _ _, is_stab _ _, is_stab _ _, is_stab _ _, trivial⟩ ⟨?o0, ?o1, ?o2, ?o3, ?o4, ?o5, ?o6, ?o7, ?o8, ?o9, ?o10, ?o11, ?o12, ?o13, ?o14, ?o15, ?o16, ?o17, ?o18, ?o19, ?o20, trivial⟩ ?_
            case o0 =>
              intro vals wq hRq hpq
              simp only [List.getD_cons_zero, List.getD_cons_succ, canonP]
              simp only [Oper.gives]
              go_simp
              exact ⟨is_mk _ _, (Touch.refl []) _⟩
            case o1 =>
              intro vals wq hRq hpq
              simp only [factsP, List.getD_cons_zero, List.getD_cons_succ] at hpq
              have f0 := hpq.1
              replace hpq := hpq.2
              clear hpq
              replace f0 : vals 0 = _ := f0
              simp only [List.getD_cons_zero, List.getD_cons_succ, canonP, f0]
              clear f0
              simp only [Oper.gives]
              go_simp
              exact ⟨is_mk _ _, (Touch.refl []) _⟩
            case o2 =>
              intro vals wq hRq hpq
              simp only [factsP, List.getD_cons_zero, List.getD_cons_succ] at hpq
              have f1 := hpq.1
              replace hpq := hpq.2
              clear hpq
              replace f1 : vals 1 = _ := f1
              simp only [List.getD_cons_zero, List.getD_cons_succ, canonP, f1]
              clear f1
              simp only [Oper.gives]
              go_simp
              exact ⟨is_mk _ _, (Touch.refl []) _⟩
            case o3 =>
              intro vals wq hRq hpq
              simp only [factsP, List.getD_cons_zero, List.getD_cons_succ] at hpq
              have f2 := hpq.1
              replace hpq := hpq.2
              clear hpq
              replace f2 : vals 2 = _ := f2
              simp only [List.getD_cons_zero, List.getD_cons_succ, canonP, f2]
              clear f2
              have hbx : wq.heap[BX]? = some (.cells (bc y).toArray 32) := (Touch.block ((Touch.drew [] _).trans hRq (by simp)) BX HCX.out.1 (by simp)).trans HCX.out.2
              rw [if_pos (by rfl)]
              exact gives_load_row 32 _ rfl BX rfl 32 (bc y).toArray (0, 0) _ hbx Try.underlying32 rfl HSz.out ⟨is_mk _ _, Touch.refl _ _⟩
            case o4 =>
              intro vals wq hRq hpq
              simp only [factsP, List.getD_cons_zero, List.getD_cons_succ] at hpq
              have f2 := hpq.1
              replace hpq := hpq.2
              clear hpq
              replace f2 : vals 2 = _ := f2
              simp only [List.getD_cons_zero, List.getD_cons_succ, canonP, f2]
              clear f2
              simp only [Oper.gives]
              go_simp
              exact ⟨is_mk _ _, (Touch.refl []) _⟩
            case o5 =>
              intro vals wq hRq hpq
              simp only [factsP, List.getD_cons_zero, List.getD_cons_succ] at hpq
              have f2 := hpq.1
              replace hpq := hpq.2
              clear hpq
              replace f2 : vals 2 = _ := f2
              simp only [List.getD_cons_zero, List.getD_cons_succ, canonP, f2]
              clear f2
              simp only [Oper.gives]
              go_simp
              exact ⟨is_mk _ _, (Touch.refl []) _⟩
            case o6 =>
              intro vals wq hRq hpq
              simp only [factsP, List.getD_cons_zero, List.getD_cons_succ] at hpq
              have f2 := hpq.1
              replace hpq := hpq.2
              have f4 := hpq.1
              replace hpq := hpq.2
              have f5 := hpq.1
              replace hpq := hpq.2
              clear hpq
              replace f2 : vals 2 = _ := f2
              replace f4 : vals 4 = _ := f4
              replace f5 : vals 5 = _ := f5
              simp only [List.getD_cons_zero, List.getD_cons_succ, canonP, f2, f4, f5]
              clear f2 f4 f5
              have hb0 : (0 : Int) ≤ (j : Int) := by omega
              have hb1 : (j : Int) < (N : Int) := by omega
              simp only [Oper.gives]
              go_simp
              exact ⟨is_mk _ _, Touch.refl _ _⟩
            case o7 =>
              intro vals wq hRq hpq
              simp only [factsP, List.getD_cons_zero, List.getD_cons_succ] at hpq
              have f2 := hpq.1
              replace hpq := hpq.2
              have f6 := hpq.1
              replace hpq := hpq.2
              clear hpq
              replace f2 : vals 2 = _ := f2
              replace f6 : vals 6 = _ := f6
              simp only [List.getD_cons_zero, List.getD_cons_succ, canonP, f2, f6]
              clear f2 f6
              have hrr := range_touch HRG.out ((Touch.drew [] _).trans hRq (by simp)) HGL.out (by simp)
              rw [if_pos (by rfl)]
              exact gives_load_mid 32 _ rfl gm (j * 256) rfl (bc y) _ hrr Try.underlying32 rfl HSl.out ⟨is_mk _ _, Touch.refl _ _⟩
            case o8 =>
              intro vals wq hRq hpq
              simp only [factsP, List.getD_cons_zero, List.getD_cons_succ] at hpq
              have f2 := hpq.1
              replace hpq := hpq.2
              have f3 := hpq.1
              replace hpq := hpq.2
              have f7 := hpq.1
              replace hpq := hpq.2
              clear hpq
              replace f2 : vals 2 = _ := f2
              replace f3 : vals 3 = _ := f3
              replace f7 : vals 7 = _ := f7
              simp only [List.getD_cons_zero, List.getD_cons_succ, canonP, f2, f3, f7]
              clear f2 f3 f7
              have hq1 := HEQ.out
              have hgT := guardT
              simp only [Oper.gives]
              go_simp
              exact ⟨is_mk _ _, Touch.refl _ _⟩
            case o9 =>
              intro vals wq hRq hpq
              simp only [factsP, List.getD_cons_zero, List.getD_cons_succ] at hpq
              have f2 := hpq.1
              replace hpq := hpq.2
              have f8 := hpq.1
              replace hpq := hpq.2
              clear hpq
              replace f2 : vals 2 = _ := f2
              replace f8 : vals 8 = _ := f8
              simp only [List.getD_cons_zero, List.getD_cons_succ, canonP, f2, f8]
              clear f2 f8
              simp only [Oper.gives]
              go_simp
              exact ⟨is_mk _ _, (Touch.refl []) _⟩
            case o10 =>
              intro vals wq hRq hpq
              simp only [factsP, List.getD_cons_zero, List.getD_cons_succ] at hpq
              have f2 := hpq.1
              replace hpq := hpq.2
              have f9 := hpq.1
              replace hpq := hpq.2
              clear hpq
              replace f2 : vals 2 = _ := f2
              replace f9 : vals 9 = _ := f9
              simp only [List.getD_cons_zero, List.getD_cons_succ, canonP, f2, f9]
              clear f2 f9
              simp only [Oper.gives]
              go_simp
              exact ⟨is_mk _ _, (Touch.refl []) _⟩
            case o11 =>
              intro vals wq hRq hpq
              simp only [factsP, List.getD_cons_zero, List.getD_cons_succ] at hpq
              have f10 := hpq.1
              replace hpq := hpq.2
              clear hpq
              replace f10 : vals 10 = _ := f10
              simp only [List.getD_cons_zero, List.getD_cons_succ, canonP, f10]
              clear f10
              simp only [Oper.gives]
              go_simp
              exact ⟨is_mk _ _, (Touch.refl []) _⟩
            case o12 =>
              intro vals wq hRq hpq
              simp only [factsP, List.getD_cons_zero, List.getD_cons_succ] at hpq
              have f10 := hpq.1
              replace hpq := hpq.2
              clear hpq
              replace f10 : vals 10 = _ := f10
              simp only [List.getD_cons_zero, List.getD_cons_succ, canonP, f10]
              clear f10
              simp only [Oper.gives]
              go_simp
              exact ⟨is_mk _ _, (Touch.refl []) _⟩
            case o13 =>
              intro vals wq hRq hpq
              simp only [factsP, List.getD_cons_zero, List.getD_cons_succ] at hpq
              have f10 := hpq.1
              replace hpq := hpq.2
              have f11 := hpq.1
              replace hpq := hpq.2
              have f12 := hpq.1
              replace hpq := hpq.2
              clear hpq
              replace f10 : vals 10 = _ := f10
              replace f11 : vals 11 = _ := f11
              replace f12 : vals 12 = _ := f12
              simp only [List.getD_cons_zero, List.getD_cons_succ, canonP, f10, f11, f12]
              clear f10 f11 f12
              have hb0 : (0 : Int) ≤ (j : Int) := by omega
              have hb1 : (j : Int) < (N : Int) := by omega
              simp only [Oper.gives]
              go_simp
              exact ⟨is_mk _ _, Touch.refl _ _⟩
            case o14 =>
              intro vals wq hRq hpq
              simp only [factsP, List.getD_cons_zero, List.getD_cons_succ] at hpq
              have f10 := hpq.1
              replace hpq := hpq.2
              have f13 := hpq.1
              replace hpq := hpq.2
              clear hpq
              replace f10 : vals 10 = _ := f10
              replace f13 : vals 13 = _ := f13
              simp only [List.getD_cons_zero, List.getD_cons_succ, canonP, f10, f13]
              clear f10 f13
              have hrr := range_touch HRS.out ((Touch.drew [] _).trans hRq (by simp)) HGS.out (by simp)
              rw [if_pos (by rfl)]
              exact gives_load_mid 32 _ rfl gs (j * 256) rfl (bc y) _ hrr Try.underlying32 rfl HSl.out ⟨is_mk _ _, Touch.refl _ _⟩
            case o15 =>
              intro vals wq hRq hpq
              simp only [factsP, List.getD_cons_zero, List.getD_cons_succ] at hpq
              have f10 := hpq.1
              replace hpq := hpq.2
              clear hpq
              replace f10 : vals 10 = _ := f10
              simp only [List.getD_cons_zero, List.getD_cons_succ, canonP, f10]
              clear f10
              simp only [Oper.gives]
              go_simp
              exact ⟨is_mk _ _, (Touch.refl []) _⟩
            case o16 =>
              intro vals wq hRq hpq
              simp only [factsP, List.getD_cons_zero, List.getD_cons_succ] at hpq
              have f10 := hpq.1
              replace hpq := hpq.2
              clear hpq
              replace f10 : vals 10 = _ := f10
              simp only [List.getD_cons_zero, List.getD_cons_succ, canonP, f10]
              clear f10
              simp only [Oper.gives]
              go_simp
              exact ⟨is_mk _ _, (Touch.refl []) _⟩
            case o17 =>
              intro vals wq hRq hpq
              simp only [factsP, List.getD_cons_zero, List.getD_cons_succ] at hpq
              have f10 := hpq.1
              replace hpq := hpq.2
              have f15 := hpq.1
              replace hpq := hpq.2
              have f16 := hpq.1
              replace hpq := hpq.2
              clear hpq
              replace f10 : vals 10 = _ := f10
              replace f15 : vals 15 = _ := f15
              replace f16 : vals 16 = _ := f16
              simp only [List.getD_cons_zero, List.getD_cons_succ, canonP, f10, f15, f16]
              clear f10 f15 f16
              have hb0 : (0 : Int) ≤ (j : Int) := by omega
              have hb1 : (j : Int) < (N : Int) := by omega
              simp only [Oper.gives]
              go_simp
              exact ⟨is_mk _ _, Touch.refl _ _⟩
            case o18 =>
              intro vals wq hRq hpq
              simp only [factsP, List.getD_cons_zero, List.getD_cons_succ] at hpq
              have f10 := hpq.1
              replace hpq := hpq.2
              have f17 := hpq.1
              replace hpq := hpq.2
              clear hpq
              replace f10 : vals 10 = _ := f10
              replace f17 : vals 17 = _ := f17
              simp only [List.getD_cons_zero, List.getD_cons_succ, canonP, f10, f17]
              clear f10 f17
              have hrr := range_touch HRG.out ((Touch.drew [] _).trans hRq (by simp)) HGL.out (by simp)
              rw [if_pos (by rfl)]
              exact gives_load_mid 32 _ rfl gm (j * 256) rfl (bc y) _ hrr Try.underlying32 rfl HSl.out ⟨is_mk _ _, Touch.refl _ _⟩
            case o19 =>
              intro vals wq hRq hpq
              simp only [factsP, List.getD_cons_zero, List.getD_cons_succ] at hpq
              have f10 := hpq.1
              replace hpq := hpq.2
              have f14 := hpq.1
              replace hpq := hpq.2
              have f18 := hpq.1
              replace hpq := hpq.2
              clear hpq
              replace f10 : vals 10 = _ := f10
              replace f14 : vals 14 = _ := f14
              replace f18 : vals 18 = _ := f18
              simp only [List.getD_cons_zero, List.getD_cons_succ, canonP, f10, f14, f18]
              clear f10 f14 f18
              have hq1 := HEQ.out
              have hgT := guardT
              simp only [Oper.gives]
              go_simp
              exact ⟨is_mk _ _, Touch.refl _ _⟩
            case o20 =>
              intro vals wq hRq hpq
              simp only [factsP, List.getD_cons_zero, List.getD_cons_succ] at hpq
              have f10 := hpq.1
              replace hpq := hpq.2
              have f19 := hpq.1
              replace hpq := hpq.2
              clear hpq
              replace f10 : vals 10 = _ := f10
              replace f19 : vals 19 = _ := f19
              simp only [List.getD_cons_zero, List.getD_cons_succ, canonP, f10, f19]
              clear f10 f19
              simp only [Oper.gives]
              go_simp
              exact ⟨is_mk _ _, (Touch.refl []) _⟩
            intro vals wz hRwz hfwz
            simp only [AllFacts] at hfwz
            have g0 := hfwz.1
            replace hfwz := hfwz.2
            have g1 := hfwz.1
            replace hfwz := hfwz.2
            have g2 := hfwz.1
            replace hfwz := hfwz.2
            have g3 := hfwz.1
            replace hfwz := hfwz.2
            have g4 := hfwz.1
            replace hfwz := hfwz.2
            have g5 := hfwz.1
            replace hfwz := hfwz.2
            have g6 := hfwz.1
            replace hfwz := hfwz.2
            have g7 := hfwz.1
            replace hfwz := hfwz.2
            have g8 := hfwz.1
            replace hfwz := hfwz.2
            have g9 := hfwz.1
            replace hfwz := hfwz.2
            have g10 := hfwz.1
            replace hfwz := hfwz.2
            have g11 := hfwz.1
            replace hfwz := hfwz.2
            have g12 := hfwz.1
            replace hfwz := hfwz.2
            have g13 := hfwz.1
            replace hfwz := hfwz.2
            have g14 := hfwz.1
            replace hfwz := hfwz.2
            have g15 := hfwz.1
            replace hfwz := hfwz.2
            have g16 := hfwz.1
            replace hfwz := hfwz.2
            have g17 := hfwz.1
            replace hfwz := hfwz.2
            have g18 := hfwz.1
            replace hfwz := hfwz.2
            have g19 := hfwz.1
            replace hfwz := hfwz.2
            have g20 := hfwz.1
            replace hfwz := hfwz.2
            clear hfwz
            replace g0 : vals 0 = _ := g0
            replace g1 : vals 1 = _ := g1
            replace g2 : vals 2 = _ := g2
            replace g3 : vals 3 = _ := g3
            replace g4 : vals 4 = _ := g4
            replace g5 : vals 5 = _ := g5
            replace g6 : vals 6 = _ := g6
            replace g7 : vals 7 = _ := g7
            replace g8 : vals 8 = _ := g8
            replace g9 : vals 9 = _ := g9
            replace g10 : vals 10 = _ := g10
            replace g11 : vals 11 = _ := g11
            replace g12 : vals 12 = _ := g12
            replace g13 : vals 13 = _ := g13
            replace g14 : vals 14 = _ := g14
            replace g15 : vals 15 = _ := g15
            replace g16 : vals 16 = _ := g16
            replace g17 : vals 17 = _ := g17
            replace g18 : vals 18 = _ := g18
            replace g19 : vals 19 = _ := g19
            replace g20 : vals 20 = _ := g20
            simp only [canonP, Act.put, List.setIfInBounds_toArray, List.set_cons_succ, List.set_cons_zero, g0, g1, g2, g3, g4, g5, g6, g7, g8, g9, g10, g11, g12, g13, g14, g15, g16, g17, g18, g19, g20]
            clear g0 g1 g2 g3 g4 g5 g6 g7 g8 g9 g10 g11 g12 g13 g14 g15 g16 g17 g18 g19 g20
            have hg6 : Grow W5 wz := ((Touch.drew [] W5).trans hRwz (by simp)).below (Nat.le_refl _) (by simp)
            have HI6 := Lib.hid (HI5.out.later hg6)
            have HRS6 := Lib.hid (HRS5.out.kept (Touch.of_below (S := []) hg6) (by simp))
            clear hRwz hg6
            go_wp2_with fail
            go_roundw
            case rel => exact ⟨j + 1, _, by omega, by omega, by go_num, _, _, HI6, HRS6, HNS4⟩
            case measure => simp [intOf]; omega
          · obtain rfl : N = j := by omega
            go_wp2_with fail
            refine (awake_ok _).mono ?_
            intro e w' hpost
            obtain ⟨he, hg⟩ := hpost
            subst he
            have HGf := Lib.hid (HI.out.grow.trans hg)
            clear hg
            go_wp2_with fail
            go_ret
            exact ⟨rfl, HGf.out⟩
#print axioms unseen_walk
end Go.Proofs.Ytmfofobmceflmaa
