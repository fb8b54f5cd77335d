/- The law CachePicks: the walk. -/
import Derived.Test.YtmfofobmceflmaaC12
set_option linter.unusedVariables false
set_option linter.unusedSimpArgs false
namespace Go.Proofs.Ytmfofobmceflmaa
open Go.RowKit Go.Maps

theorem gives_len_row {o : Oper} {a : Act} {w : World} {T : Value → World → Prop} (x : Operand) (ho : o.op = .call { callee := .builtin .len, args := #[x], argTypes := #[28] }) {v : Value} {zs : List Int} (hx : a.eval x = v) (hr : IRow w v zs) {n : Nat} (hn : zs.length = n) (hT : T (.int .i64 (n : Int)) w) : Oper.gives Try.prog o a w T := by
  obtain ⟨p, c, rfl⟩ := hr.len
  rw [hn] at hx
  refine gives_run (v := .int .i64 (n : Int)) (w' := w) ?_ hT
  unfold execOp
  simp [ho, resolve, invoke, builtin, hx, Builtin.len_, run_underlying Try.underlying28, goInt, Result.andThen]
theorem back_isDirty {s : CS} {c : Int} {x : Blk} (h : s.f c = some (x, true)) (i : Int) : isDirty (s.back c).f i = if i = c then false else isDirty s.f i := by
  rw [back_dirty h]; exact isDirty_put i
theorem back_isClean {s : CS} {c : Int} {x : Blk} (h : s.f c = some (x, true)) : isClean (s.back c).f s.p c = !s.p c := by
  rw [back_dirty h]
  show isClean (putF s.f c (x, false)) s.p c = _
  rw [isClean_put, if_pos rfl]; rfl
theorem dirty_is {f : Int → Option Hd} {i : Int} (h : isDirty f i = true) : ∃ x, f i = some (x, true) := by
  unfold isDirty at h
  cases e : f i with
  | none => rw [e] at h; cases h
  | some y => obtain ⟨x, t⟩ := y; rw [e] at h; exact ⟨x, by rw [show t = true from h]⟩
theorem sel_less {N : Nat} {sel sel' : Int → Bool} {c : Int} (hc : c ∈ selL N sel) (h : ∀ i, sel' i = if i = c then false else sel i) : (selL N sel).length = (selL N sel').length + 1 := by
  have hp : (selL N sel).Perm (c :: selL N sel') := by
    refine (List.perm_ext_iff_of_nodup (selL_nodup N sel) (List.nodup_cons.2 ⟨fun hm => ?_, selL_nodup N sel'⟩)).2 (fun i => ?_)
    · have := (selL_mem.1 hm).2; rw [h, if_pos rfl] at this; cases this
    · rw [List.mem_cons, selL_mem, selL_mem, h]
      by_cases e : i = c
      · subst e; simp [(selL_mem.1 hc).1, (selL_mem.1 hc).2]
      · simp [e]
  rw [hp.length_eq, List.length_cons]
theorem pickI_low {zs : List Int} {k : Int} (hk : k ≤ 0) : pickI zs k = zs.getD 0 0 := by
  unfold pickI
  rw [show k.toNat = 0 by omega, Nat.zero_mod]
set_option maxRecDepth 100000 in
set_option maxHeartbeats 4000000 in
theorem picks_walk (n : Int) (hn : IntOk n) {w : World} {v : Value} {l : List DP} (hp : DosIn w v l) (hl : l.length ≤ 9223372036854775807) (k : Int) (hk : IntOk k) :
    Calls Try.prog 4 #[.int .i64 n, v, .int .i64 k] w fun e w' => e = .returned (.bool true) ∧ Below w.heap.size w w' := by
  obtain ⟨ad, cap, rfl⟩ := hp.len
  by_cases h3 : 200 < l.length
  · generalize l.length = L at *
    clear hp
    have d0 : decide ((200 : Int) < (L : Int)) = true := by simp; omega
    go_enter Try.func4, Try.ntmps4
    go_wp2_with fail
    go_ret
    exact ⟨rfl, Below.refl _ _⟩
  · obtain ⟨N, hN⟩ : ∃ N : Nat, (N : Int) = 1 + n % 64 := ⟨(1 + n % 64).toNat, by omega⟩
    have h1 : 1 ≤ N := by omega
    have h2 : N ≤ 64 := by omega
    have HW := Lib.hid (ran_ok n hn N hN hp (by omega))
    obtain ⟨L, hL⟩ : ∃ L, L = l.length := ⟨_, rfl⟩
    rw [← hL] at h3 HW ⊢
    have d0 : decide ((200 : Int) < (L : Int)) = false := by simp; omega
    clear hn hN hp hL hl
    go_enter Try.func4, Try.ntmps4
    go_wp2_with fail
    refine HW.out.mono ?_
    intro e w1 hpost
    obtain ⟨C, B, gm, U, s, m, he, hr⟩ := hpost
    subst he
    have HI := Lib.hid hr
    have HDI := Lib.hid (by have := dirty_ok hr.cache; rw [hr.good.safe] at this; exact this)
    clear hr HW
    go_wp2_with fail
    refine HDI.out.mono ?_
    intro e w2 hpost
    obtain ⟨v11, he, hr11, hg2, hlo⟩ := hpost
    subst he
    obtain ⟨a11, c11, hv11⟩ := hr11.len
    have HI2 := Lib.hid (HI.out.later hg2)
    have HL11 := Lib.hid (selL_length N (isDirty s.f))
    have HWB := Lib.hid (by have := wb_ok HI2.out.cache (by omega) HI2.out.good (by omega) k hk.2; unfold WbPost at this; rw [HI2.out.good.safe] at this; exact this)
    have HWS := Lib.hid (show s.wb k = if selL N (isDirty s.f) = [] then s else s.back (pickI (selL N (isDirty s.f)) k) by unfold CS.wb; rw [HI2.out.good.safe])
    have HIN := Lib.hid (fun i (hi : i ∈ selL N (isDirty s.f)) => selL_mem.1 hi)
    have HLS := Lib.hid (fun (c : Int) (sel' : Int → Bool) (hc : c ∈ selL N (isDirty s.f)) (h : ∀ i, sel' i = if i = c then false else isDirty s.f i) => sel_less hc h)
    have HR11 := Lib.hid hr11
    have HOU := Lib.hid (show ∀ g, v11.ownBlock = some g → g ∉ U from fun g e hm => by have := hlo g e; have := HI.out.cache.lt g hm; omega)
    obtain ⟨dl, hdl⟩ : ∃ dl, dl = selL N (isDirty s.f) := ⟨_, rfl⟩
    rw [← hdl] at hv11 HL11 HWB HWS HIN HLS HR11
    clear hr11 hg2 hlo HI HDI hdl
    by_cases hnil : dl = []
    · subst hnil
      subst hv11
      have HWS' := Lib.hid (show s.wb k = s by rw [HWS.out, if_pos rfl])
      go_wp2_with fail
      refine HWB.out.mono ?_
      intro e w3 hpost
      obtain ⟨he, hst⟩ := hpost
      replace he : e = .returned (.tuple #[.int .i64 0, .bool false, .int .i64 0]) := by rw [he]; rfl
      rw [HWS'.out] at hst
      subst he
      obtain ⟨U3, hI3⟩ := HI2.out.step hst (HI2.out.good.more (Nat.le_succ L)) HI2.out.tells rfl
      have HI3 := Lib.hid hI3
      clear hst hI3 HWB HWS HWS'
      go_wp2_with fail
      go_ret
      exact ⟨rfl, HI3.out.grow⟩
    · have hpm := pickI_mem hnil k
      have hpin := HIN.out _ hpm
      obtain ⟨c, hc⟩ : ∃ c : Nat, pickI dl k = (c : Int) := ⟨(pickI dl k).toNat, by omega⟩
      rw [hc] at hpm hpin
      have hcN : c < N := by omega
      obtain ⟨x0, hx0⟩ := dirty_is hpin.2
      have HX0 := Lib.hid hx0
      have HSB := Lib.hid (show s.wb k = s.back c by rw [HWS.out, if_neg hnil, hc])
      have HLN := Lib.hid (HLS.out c _ hpm (back_isDirty hx0))
      obtain ⟨n1, hn1⟩ : ∃ n1, n1 = (selL N (isDirty (s.back c).f)).length := ⟨_, rfl⟩
      rw [← hn1] at HLN
      have HN1 := Lib.hid hn1.symm
      have HPK := Lib.hid hc
      have HNIL := Lib.hid hnil
      obtain ⟨n11, hn11⟩ : ∃ n11, n11 = n1 + 1 := ⟨_, rfl⟩
      rw [← hn11] at HLN
      have hll : n11 ≤ N := by rw [← HLN.out]; exact HL11.out
      have hpos : 0 < n11 := by omega
      have HN11 := Lib.hid hn11
      have HWR := Lib.hid (show IntKind.i64.wrap (n1 : Int) = (n1 : Int) by rw [IntKind.wrap_i64]; omega)
      rw [HLN.out] at hv11
      subst hv11
      clear hpm hpin hx0 hc hn1 hn11 HWS HLS HIN
      go_wp2_with fail
      refine HWB.out.mono ?_
      intro e w3 hpost
      obtain ⟨he, hst⟩ := hpost
      rw [if_neg HNIL.out, decide_eq_false HNIL.out, HPK.out] at he
      rw [HSB.out] at hst
      subst he
      have hlens := HI2.out.lens
      have hR3 : IRow w3 (.slice a11 n11 c11) dl := by obtain ⟨U', _, ht, _⟩ := hst; exact Row.kept HR11.out ht HOU.out
      obtain ⟨U3, hI3⟩ := HI2.out.step hst (HI2.out.good.back c hcN) (HI2.out.tells.back c hcN hlens) (by rw [back_dirty HX0.out])
      have HI3 := Lib.hid hI3
      have HR3 := Lib.hid hR3
      clear hst hI3 HWB hlens hR3 HSB
      obtain ⟨g11, cc11, hv⟩ := HR3.out.open_ (by rw [HLN.out]; omega)
      rw [HLN.out] at hv
      cases hv
      have HC0 := Lib.hid (fun (j : Nat) (hj : j < n11) => IRow.cell HR3.out (k := j) (z := dl.getD j 0) (by rw [List.getD_eq_getElem?_getD, List.getElem?_eq_getElem (by rw [HLN.out]; exact hj)]; rfl))
      obtain ⟨S, hdk, _⟩ := HI3.out.cache.disk
      have hll3 := HI3.out.lens
      obtain ⟨x, hx⟩ : ∃ x, (s.back c).d.last[c]? = some x := ⟨(s.back c).d.last[c]'(by omega), by simp⟩
      have hxe : (s.back c).d.last[c]'(by omega) = x := (List.getElem?_eq_some_iff.1 hx).2
      have HX := Lib.hid (HI3.out.cache.facts.2.2.2.1 x (List.mem_of_getElem? hx))
      have HRD := Lib.hid (by have := read_ok hdk c (by omega) HI3.out.good.dead; rw [hxe] at this; exact this)
      have hdf : isDirty (s.back c).f c = false := by rw [back_isDirty HX0.out, if_pos rfl]
      have HMX := Lib.hid ((HI3.out.tells.disk c hcN hdf).symm.trans hx)
      have HDF := Lib.hid hdf
      have HCF := Lib.hid (show isClean (s.back c).f (s.back c).p c = true by rw [show (s.back c).p = s.p by rw [back_dirty HX0.out], back_isClean HX0.out, HI2.out.nopin]; rfl)
      have hz := zero32
      have hzs := zero_size
      have HSz := Lib.hid (bsize HX.out)
      have HSl := Lib.hid (show (Try.prog.info? 32).map (·.size) = some (bc x).length by rw [bc_length, HX.out]; exact size32)
      have HO := Lib.hid (show (bc x).toArray.all (·.oneCell') = true from all_oneCell_toArray (bc_one _))
      have HEQ := Lib.hid (equal32 x HX.out)
      generalize (bc zeroB).toArray = Z at *
      have HSo := Lib.hid (show Z.size = (bc x).toArray.size from hzs.trans (show 256 = (bc x).toArray.size by rw [List.size_toArray, bc_length, HX.out]))
      clear hdk hll3 hx hxe hzs hdf hnil
      have e0 : ((n11 : Int) == 0) = false := by simp; omega
      have c00 := HC0.out 0 (by omega)
      have i0 : (0 : Int) < (n11 : Int) := by omega
      by_cases hk0 : k ≤ 0
      · have hp0 : dl.getD 0 0 = (c : Int) := by rw [← pickI_low hk0]; exact HPK.out
        rw [hp0] at c00
        have ek : decide (0 < k) = false := by simp; omega
        clear hp0
        go_upto_region 13 with (fail)
        go_wp2_with fail
        refine HRD.out.mono ?_
        intro e w6 hpost
        obtain ⟨he, hg6⟩ := hpost
        subst he
        have HI6 := Lib.hid (HI3.out.later hg6)
        clear hg6 c00 e0 i0 ek
        go_upto_region 14 with (refine wpList_store_row rfl 32 _ _ rfl w6.heap.size (bc x).toArray rfl rfl 32 Z (heap_alloc_last _ _) HSz.out HSo.out HO.out ?_)
        have hg7 : Grow w6 ((w6.alloc (.cells Z 32)).setRow w6.heap.size (bc x).toArray) := below_setRow ((Below.refl _ _).alloc (Nat.le_refl _) _) (Nat.le_refl _) _
        have HI5 := Lib.hid (HI6.out.later hg7)
        have HCX := Lib.hid (show w6.heap.size < ((w6.alloc (.cells Z 32)).setRow w6.heap.size (bc x).toArray).heap.size ∧ ((w6.alloc (.cells Z 32)).setRow w6.heap.size (bc x).toArray).heap[w6.heap.size]? = some (.cells (bc x).toArray 32) from ⟨by simp, setRow_heap _ _ _ _ _ _ (heap_alloc_last _ _)⟩)
        clear hg7
        generalize (w6.alloc (.cells Z 32)).setRow w6.heap.size (bc x).toArray = W5 at *
        obtain ⟨BX, hBX⟩ : ∃ g, g = w6.heap.size := ⟨_, rfl⟩
        rw [← hBX] at HCX
        rw [← hBX]
        clear hBX HI6 HRD HC0 HR3
        have HGL := Lib.hid (show gm < W5.heap.size from HI5.out.row.lt rfl)
        have HRG := Lib.hid (HI5.out.row.range (i := c) (c := bc x) (by rw [List.getElem?_map, HMX.out]; rfl))
        have HDQ := Lib.hid (fun wq (hq : Touch [] W5 wq) => by have := dirty_ok (HI5.out.cache.kept hq (by simp)); rw [HI5.out.good.safe] at this; exact this)
        have HCQ := Lib.hid (fun wq (hq : Touch [] W5 wq) => by have := clean_ok (HI5.out.cache.kept hq (by simp)); rw [HI5.out.good.safe] at this; exact this)
        have HHN := Lib.hid (fun wq v (hv : IRow wq v (selL N (isDirty (s.back c).f))) => by have := has_ok hv (by have := selL_length N (isDirty (s.back c).f); omega) (c : Int); rw [sel_in N _ c hcN, HDF.out] at this; exact this)
        have HHY := Lib.hid (fun wq v (hv : IRow wq v (selL N (isClean (s.back c).f (s.back c).p))) => by have := has_ok hv (by have := selL_length N (isClean (s.back c).f (s.back c).p); omega) (c : Int); rw [sel_in N _ c hcN, HCF.out] at this; exact this)
        have HNL := HN1
        unfold SelPost at HDQ HCQ
        generalize selL N (isDirty (s.back c).f) = zd at *
        generalize selL N (isClean (s.back c).f (s.back c).p) = zc at *
        refine wp_region_facts (by kernel_rfl) [[], [], [(0, some 71), (1, some 72)], [(2, some 73)], [(3, some 74)], [(3, some 74), (4, some 75)], [(3, some 74), (5, some 76)], [(6, some 77)], [(6, some 77), (7, some 78)], [(6, some 77), (8, some 79)], [(6, some 77), (9, some 80)], [(10, some 81)], [(10, some 81), (11, some 82)], [(10, some 81), (12, some 83)], [(10, some 81), (13, some 84)], [(14, some 85)], [(14, some 85)], [(14, some 85)], [(14, some 85), (16, some 87), (17, some 88)], [(14, some 85), (18, some 89)], [(14, some 85), (15, some 86), (19, some 90)], [(14, some 85), (20, some 91)], [(14, some 85), (21, some 92)], [(22, some 93)], [(22, some 93), (23, some 94)], [(22, some 93)], [(22, some 93), (24, some 95), (25, some 96)], [(22, some 93), (26, some 97)], [(22, some 93), (27, some 98)], [(26, some 97), (28, some 99)], [(29, some 100)], [(29, some 100), (30, some 101)], [(29, some 100)], [(29, some 100), (31, some 102), (32, some 103)], [(29, some 100), (33, some 104)], [(33, some 104), (34, some 105)], [(35, some 106)], [(35, some 106), (36, some 107)], [(35, some 106), (37, some 108)], [(35, some 106)], [(35, some 106), (39, some 110)], [(35, some 106), (40, some 111)], [(35, some 106), (38, some 109), (41, some 112)], [(35, some 106), (42, some 113)], [(0, some 71), (1, some 72), (2, some 73), (3, some 74), (4, some 75), (5, some 76), (6, some 77), (7, some 78), (8, some 79), (9, some 80), (10, some 81), (11, some 82), (12, some 83), (13, some 84), (14, some 85), (15, some 86), (16, some 87), (17, some 88), (18, some 89), (19, some 90), (20, some 91), (21, some 92), (22, some 93), (23, some 94), (24, some 95), (25, some 96), (26, some 97), (27, some 98), (28, some 99), (29, some 100), (30, some 101), (31, some 102), (32, some 103), (33, some 104), (34, some 105), (35, some 106), (36, some 107), (37, some 108), (38, some 109), (39, some 110), (40, some 111), (41, some 112), (42, some 113), (43, some 114)]] [(0, some 71), (1, some 72), (2, some 73), (3, some 74), (4, some 75), (5, some 76), (6, some 77), (7, some 78), (8, some 79), (9, some 80), (10, some 81), (11, some 82), (12, some 83), (13, some 84), (14, some 85), (15, some 86), (16, some 87), (17, some 88), (18, some 89), (19, some 90), (20, some 91), (21, some 92), (22, some 93), (23, some 94), (24, some 95), (25, some 96), (26, some 97), (27, some 98), (28, some 99), (29, some 100), (30, some 101), (31, some 102), (32, some 103), (33, some 104), (34, some 105), (35, some 106), (36, some 107), (37, some 108), (38, some 109), (39, some 110), (40, some 111), (41, some 112), (42, some 113), (43, some 114), (44, some 6)] (by kernel_rfl) (by kernel_rfl) (by kernel_rfl) (Touch []) (Touch.refl []) (fun _ _ _ h h' => h.trans h' (fun i hi => .inl hi)) [Is (Value.int .i64 (c : Int)), Is (Value.int .i64 (c : Int)), Is (Value.bool true), Is (Value.bool true), Is (Value.bool true), Is (Value.bool true), Is (Value.bool true), Is (Value.int .i64 0), Is (Value.bool true), Is (Value.bool true), Is (Value.bool true), Is (Value.int .i64 0), Is (Value.bool true), Is (Value.bool true), Is (Value.bool true), Is (Value.agg (bc x).toArray), Is (Value.slice (some ⟨gm, 0, none⟩) N N), Is (Value.int .i64 (c : Int)), Is (Value.pointer (some ⟨gm, c * 256, none⟩)), Is (Value.agg (bc x).toArray), Is (Value.bool true), Is (Value.bool true), Is (Value.bool true), Is (Value.pointer (some ⟨C, 0, none⟩)), (fun v wx => IRow wx v (zd)), Is (Value.int .i64 (c : Int)), Is (Value.bool false), Is (Value.bool true), Is (Value.bool true), Is (Value.bool true), Is (Value.pointer (some ⟨C, 0, none⟩)), (fun v wx => IRow wx v (zc)), Is (Value.int .i64 (c : Int)), Is (Value.bool true), Is (Value.bool true), Is (Value.bool true), Is (Value.pointer (some ⟨C, 0, none⟩)), (fun v wx => IRow wx v (zd)), Is (Value.int .i64 (n1 : Int)), Is (Value.slice (some ⟨g11, 0, none⟩) n11 c11), Is (Value.int .i64 (n11 : Int)), Is (Value.int .i64 (n1 : Int)), Is (Value.bool true), Is (Value.bool true), Is (Value.bool true)] rfl ⟨is_stab _ _, is_stab _ _, is_stab _ _, is_stab _ _, is_stab _ _, is_stab _ _, is_stab _ _, is_stab _ _, is_stab _ _, is_stab _ _, is_stab _ _, is_stab _ _, is_stab _ _, is_stab _ _, is_stab _ _, is_stab _ _, is_stab _ _, is_stab _ _, is_stab _ _, is_stab _ _, is_stab _ _, is_stab _ _, is_stab _ _, is_stab _ _, (fun v w w' h1 h2 => Row.kept h2 h1 (by simp)), is_stab _ _, is_stab _ _, is_stab _ _, is_stab _ _, is_stab _ _, is_stab _ _, (fun v w w' h1 h2 => Row.kept h2 h1 (by simp)), is_stab _ _, is_stab _ _, is_stab _ _, is_stab _ _, is_stab _ _, (fun v w w' h1 h2 => Row.kept h2 h1 (by simp)), is_stab _ _, is_stab _ _, is_stab _ _, is_stab _ _, is_stab _ _, is_stab _ _, is_stab _ _, trivial⟩ ⟨?o0, ?o1, ?o2, ?o3, ?o4, ?o5, ?o6, ?o7, ?o8, ?o9, ?o10, ?o11, ?o12, ?o13, ?o14, ?o15, ?o16, ?o17, ?o18, ?o19, ?o20, ?o21, ?o22, ?o23, ?o24, ?o25, ?o26, ?o27, ?o28, ?o29, ?o30, ?o31, ?o32, ?o33, ?o34, ?o35, ?o36, ?o37, ?o38, ?o39, ?o40, ?o41, ?o42, ?o43, ?o44, trivial⟩ ?_
        case o0 =>
          intro vals wq hRq hpq
          simp only [List.getD_cons_zero, List.getD_cons_succ, canonP]
          simp only [Oper.gives]
          go_simp
          exact ⟨is_mk _ _, (Touch.refl []) _⟩
        case o1 =>
          intro vals wq hRq hpq
          simp only [List.getD_cons_zero, List.getD_cons_succ, canonP]
          simp only [Oper.gives]
          go_simp
          exact ⟨is_mk _ _, (Touch.refl []) _⟩
        case o2 =>
          intro vals wq hRq hpq
          simp only [factsP, List.getD_cons_zero, List.getD_cons_succ] at hpq
          have f0 := hpq.1
          replace hpq := hpq.2
          have f1 := hpq.1
          replace hpq := hpq.2
          clear hpq
          replace f0 : vals 0 = _ := f0
          replace f1 : vals 1 = _ := f1
          simp only [List.getD_cons_zero, List.getD_cons_succ, canonP, f0, f1]
          clear f0 f1
          simp only [Oper.gives]
          go_simp
          exact ⟨is_mk _ _, (Touch.refl []) _⟩
        case o3 =>
          intro vals wq hRq hpq
          simp only [factsP, List.getD_cons_zero, List.getD_cons_succ] at hpq
          have f2 := hpq.1
          replace hpq := hpq.2
          clear hpq
          replace f2 : vals 2 = _ := f2
          simp only [List.getD_cons_zero, List.getD_cons_succ, canonP, f2]
          clear f2
          simp only [Oper.gives]
          go_simp
          exact ⟨is_mk _ _, (Touch.refl []) _⟩
        case o4 =>
          intro vals wq hRq hpq
          simp only [factsP, List.getD_cons_zero, List.getD_cons_succ] at hpq
          have f3 := hpq.1
          replace hpq := hpq.2
          clear hpq
          replace f3 : vals 3 = _ := f3
          simp only [List.getD_cons_zero, List.getD_cons_succ, canonP, f3]
          clear f3
          simp only [Oper.gives]
          go_simp
          exact ⟨is_mk _ _, (Touch.refl []) _⟩
        case o5 =>
          intro vals wq hRq hpq
          simp only [factsP, List.getD_cons_zero, List.getD_cons_succ] at hpq
          have f3 := hpq.1
          replace hpq := hpq.2
          have f4 := hpq.1
          replace hpq := hpq.2
          clear hpq
          replace f3 : vals 3 = _ := f3
          replace f4 : vals 4 = _ := f4
          simp only [List.getD_cons_zero, List.getD_cons_succ, canonP, f3, f4]
          clear f3 f4
          simp only [Oper.gives]
          go_simp
          exact ⟨is_mk _ _, (Touch.refl []) _⟩
        case o6 =>
          intro vals wq hRq hpq
          simp only [factsP, List.getD_cons_zero, List.getD_cons_succ] at hpq
          have f3 := hpq.1
          replace hpq := hpq.2
          have f5 := hpq.1
          replace hpq := hpq.2
          clear hpq
          replace f3 : vals 3 = _ := f3
          replace f5 : vals 5 = _ := f5
          simp only [List.getD_cons_zero, List.getD_cons_succ, canonP, f3, f5]
          clear f3 f5
          simp only [Oper.gives]
          go_simp
          exact ⟨is_mk _ _, (Touch.refl []) _⟩
        case o7 =>
          intro vals wq hRq hpq
          simp only [factsP, List.getD_cons_zero, List.getD_cons_succ] at hpq
          have f6 := hpq.1
          replace hpq := hpq.2
          clear hpq
          replace f6 : vals 6 = _ := f6
          simp only [List.getD_cons_zero, List.getD_cons_succ, canonP, f6]
          clear f6
          simp only [Oper.gives]
          go_simp
          exact ⟨is_mk _ _, (Touch.refl []) _⟩
        case o8 =>
          intro vals wq hRq hpq
          simp only [factsP, List.getD_cons_zero, List.getD_cons_succ] at hpq
          have f6 := hpq.1
          replace hpq := hpq.2
          have f7 := hpq.1
          replace hpq := hpq.2
          clear hpq
          replace f6 : vals 6 = _ := f6
          replace f7 : vals 7 = _ := f7
          simp only [List.getD_cons_zero, List.getD_cons_succ, canonP, f6, f7]
          clear f6 f7
          simp only [Oper.gives]
          go_simp
          exact ⟨is_mk _ _, (Touch.refl []) _⟩
        case o9 =>
          intro vals wq hRq hpq
          simp only [factsP, List.getD_cons_zero, List.getD_cons_succ] at hpq
          have f6 := hpq.1
          replace hpq := hpq.2
          have f8 := hpq.1
          replace hpq := hpq.2
          clear hpq
          replace f6 : vals 6 = _ := f6
          replace f8 : vals 8 = _ := f8
          simp only [List.getD_cons_zero, List.getD_cons_succ, canonP, f6, f8]
          clear f6 f8
          simp only [Oper.gives]
          go_simp
          exact ⟨is_mk _ _, (Touch.refl []) _⟩
        case o10 =>
          intro vals wq hRq hpq
          simp only [factsP, List.getD_cons_zero, List.getD_cons_succ] at hpq
          have f6 := hpq.1
          replace hpq := hpq.2
          have f9 := hpq.1
          replace hpq := hpq.2
          clear hpq
          replace f6 : vals 6 = _ := f6
          replace f9 : vals 9 = _ := f9
          simp only [List.getD_cons_zero, List.getD_cons_succ, canonP, f6, f9]
          clear f6 f9
          simp only [Oper.gives]
          go_simp
          exact ⟨is_mk _ _, (Touch.refl []) _⟩
        case o11 =>
          intro vals wq hRq hpq
          simp only [factsP, List.getD_cons_zero, List.getD_cons_succ] at hpq
          have f10 := hpq.1
          replace hpq := hpq.2
          clear hpq
          replace f10 : vals 10 = _ := f10
          simp only [List.getD_cons_zero, List.getD_cons_succ, canonP, f10]
          clear f10
          simp only [Oper.gives]
          go_simp
          exact ⟨is_mk _ _, (Touch.refl []) _⟩
        case o12 =>
          intro vals wq hRq hpq
          simp only [factsP, List.getD_cons_zero, List.getD_cons_succ] at hpq
          have f10 := hpq.1
          replace hpq := hpq.2
          have f11 := hpq.1
          replace hpq := hpq.2
          clear hpq
          replace f10 : vals 10 = _ := f10
          replace f11 : vals 11 = _ := f11
          simp only [List.getD_cons_zero, List.getD_cons_succ, canonP, f10, f11]
          clear f10 f11
          simp only [Oper.gives]
          go_simp
          exact ⟨is_mk _ _, (Touch.refl []) _⟩
        case o13 =>
          intro vals wq hRq hpq
          simp only [factsP, List.getD_cons_zero, List.getD_cons_succ] at hpq
          have f10 := hpq.1
          replace hpq := hpq.2
          have f12 := hpq.1
          replace hpq := hpq.2
          clear hpq
          replace f10 : vals 10 = _ := f10
          replace f12 : vals 12 = _ := f12
          simp only [List.getD_cons_zero, List.getD_cons_succ, canonP, f10, f12]
          clear f10 f12
          simp only [Oper.gives]
          go_simp
          exact ⟨is_mk _ _, (Touch.refl []) _⟩
        case o14 =>
          intro vals wq hRq hpq
          simp only [factsP, List.getD_cons_zero, List.getD_cons_succ] at hpq
          have f10 := hpq.1
          replace hpq := hpq.2
          have f13 := hpq.1
          replace hpq := hpq.2
          clear hpq
          replace f10 : vals 10 = _ := f10
          replace f13 : vals 13 = _ := f13
          simp only [List.getD_cons_zero, List.getD_cons_succ, canonP, f10, f13]
          clear f10 f13
          simp only [Oper.gives]
          go_simp
          exact ⟨is_mk _ _, (Touch.refl []) _⟩
        case o15 =>
          intro vals wq hRq hpq
          simp only [factsP, List.getD_cons_zero, List.getD_cons_succ] at hpq
          have f14 := hpq.1
          replace hpq := hpq.2
          clear hpq
          replace f14 : vals 14 = _ := f14
          simp only [List.getD_cons_zero, List.getD_cons_succ, canonP, f14]
          clear f14
          have hbx : wq.heap[BX]? = some (.cells (bc x).toArray 32) := (Touch.block ((Touch.drew [] _).trans hRq (by simp)) BX HCX.out.1 (by simp)).trans HCX.out.2
          rw [if_pos (by rfl)]
          exact gives_load_row 32 _ rfl BX rfl 32 (bc x).toArray (0, 0) _ hbx Try.underlying32 rfl HSz.out ⟨is_mk _ _, Touch.refl _ _⟩
        case o16 =>
          intro vals wq hRq hpq
          simp only [factsP, List.getD_cons_zero, List.getD_cons_succ] at hpq
          have f14 := hpq.1
          replace hpq := hpq.2
          clear hpq
          replace f14 : vals 14 = _ := f14
          simp only [List.getD_cons_zero, List.getD_cons_succ, canonP, f14]
          clear f14
          simp only [Oper.gives]
          go_simp
          exact ⟨is_mk _ _, (Touch.refl []) _⟩
        case o17 =>
          intro vals wq hRq hpq
          simp only [factsP, List.getD_cons_zero, List.getD_cons_succ] at hpq
          have f14 := hpq.1
          replace hpq := hpq.2
          clear hpq
          replace f14 : vals 14 = _ := f14
          simp only [List.getD_cons_zero, List.getD_cons_succ, canonP, f14]
          clear f14
          simp only [Oper.gives]
          go_simp
          exact ⟨is_mk _ _, (Touch.refl []) _⟩
        case o18 =>
          intro vals wq hRq hpq
          simp only [factsP, List.getD_cons_zero, List.getD_cons_succ] at hpq
          have f14 := hpq.1
          replace hpq := hpq.2
          have f16 := hpq.1
          replace hpq := hpq.2
          have f17 := hpq.1
          replace hpq := hpq.2
          clear hpq
          replace f14 : vals 14 = _ := f14
          replace f16 : vals 16 = _ := f16
          replace f17 : vals 17 = _ := f17
          simp only [List.getD_cons_zero, List.getD_cons_succ, canonP, f14, f16, f17]
          clear f14 f16 f17
          have hb0 : (0 : Int) ≤ (c : Int) := by omega
          have hb1 : (c : Int) < (N : Int) := by omega
          simp only [Oper.gives]
          go_simp
          exact ⟨is_mk _ _, Touch.refl _ _⟩
        case o19 =>
          intro vals wq hRq hpq
          simp only [factsP, List.getD_cons_zero, List.getD_cons_succ] at hpq
          have f14 := hpq.1
          replace hpq := hpq.2
          have f18 := hpq.1
          replace hpq := hpq.2
          clear hpq
          replace f14 : vals 14 = _ := f14
          replace f18 : vals 18 = _ := f18
          simp only [List.getD_cons_zero, List.getD_cons_succ, canonP, f14, f18]
          clear f14 f18
          have hrr := range_touch HRG.out ((Touch.drew [] _).trans hRq (by simp)) HGL.out (by simp)
          rw [if_pos (by rfl)]
          exact gives_load_mid 32 _ rfl gm (c * 256) rfl (bc x) _ hrr Try.underlying32 rfl HSl.out ⟨is_mk _ _, Touch.refl _ _⟩
        case o20 =>
          intro vals wq hRq hpq
          simp only [factsP, List.getD_cons_zero, List.getD_cons_succ] at hpq
          have f14 := hpq.1
          replace hpq := hpq.2
          have f15 := hpq.1
          replace hpq := hpq.2
          have f19 := hpq.1
          replace hpq := hpq.2
          clear hpq
          replace f14 : vals 14 = _ := f14
          replace f15 : vals 15 = _ := f15
          replace f19 : vals 19 = _ := f19
          simp only [List.getD_cons_zero, List.getD_cons_succ, canonP, f14, f15, f19]
          clear f14 f15 f19
          have hq1 := HEQ.out
          have hgT := guardT
          simp only [Oper.gives]
          go_simp
          exact ⟨is_mk _ _, Touch.refl _ _⟩
        case o21 =>
          intro vals wq hRq hpq
          simp only [factsP, List.getD_cons_zero, List.getD_cons_succ] at hpq
          have f14 := hpq.1
          replace hpq := hpq.2
          have f20 := hpq.1
          replace hpq := hpq.2
          clear hpq
          replace f14 : vals 14 = _ := f14
          replace f20 : vals 20 = _ := f20
          simp only [List.getD_cons_zero, List.getD_cons_succ, canonP, f14, f20]
          clear f14 f20
          simp only [Oper.gives]
          go_simp
          exact ⟨is_mk _ _, (Touch.refl []) _⟩
        case o22 =>
          intro vals wq hRq hpq
          simp only [factsP, List.getD_cons_zero, List.getD_cons_succ] at hpq
          have f14 := hpq.1
          replace hpq := hpq.2
          have f21 := hpq.1
          replace hpq := hpq.2
          clear hpq
          replace f14 : vals 14 = _ := f14
          replace f21 : vals 21 = _ := f21
          simp only [List.getD_cons_zero, List.getD_cons_succ, canonP, f14, f21]
          clear f14 f21
          simp only [Oper.gives]
          go_simp
          exact ⟨is_mk _ _, (Touch.refl []) _⟩
        case o23 =>
          intro vals wq hRq hpq
          simp only [factsP, List.getD_cons_zero, List.getD_cons_succ] at hpq
          have f22 := hpq.1
          replace hpq := hpq.2
          clear hpq
          replace f22 : vals 22 = _ := f22
          simp only [List.getD_cons_zero, List.getD_cons_succ, canonP, f22]
          clear f22
          simp only [Oper.gives]
          go_simp
          exact ⟨is_mk _ _, (Touch.refl []) _⟩
        case o24 =>
          intro vals wq hRq hpq
          simp only [factsP, List.getD_cons_zero, List.getD_cons_succ] at hpq
          have f22 := hpq.1
          replace hpq := hpq.2
          have f23 := hpq.1
          replace hpq := hpq.2
          clear hpq
          replace f22 : vals 22 = _ := f22
          replace f23 : vals 23 = _ := f23
          simp only [List.getD_cons_zero, List.getD_cons_succ, canonP, f22, f23]
          clear f22 f23
          simp only [Oper.gives]
          go_simp
          exact (HDQ.out wq ((Touch.drew [] _).trans hRq (by simp))).mono fun e w' ⟨v, he, hr, hg, _⟩ => ⟨_, he, hr, Touch.of_below hg⟩
        case o25 =>
          intro vals wq hRq hpq
          simp only [factsP, List.getD_cons_zero, List.getD_cons_succ] at hpq
          have f22 := hpq.1
          replace hpq := hpq.2
          clear hpq
          replace f22 : vals 22 = _ := f22
          simp only [List.getD_cons_zero, List.getD_cons_succ, canonP, f22]
          clear f22
          simp only [Oper.gives]
          go_simp
          exact ⟨is_mk _ _, (Touch.refl []) _⟩
        case o26 =>
          intro vals wq hRq hpq
          simp only [factsP, List.getD_cons_zero, List.getD_cons_succ] at hpq
          have f22 := hpq.1
          replace hpq := hpq.2
          have f24 := hpq.1
          replace hpq := hpq.2
          have f25 := hpq.1
          replace hpq := hpq.2
          clear hpq
          replace f22 : vals 22 = _ := f22
          replace f25 : vals 25 = _ := f25
          simp only [List.getD_cons_zero, List.getD_cons_succ, canonP, f22, f25]
          clear f22 f25
          simp only [Oper.gives]
          go_simp
          exact (HHN.out wq _ f24).mono fun e w' ⟨he, hg⟩ => ⟨_, he, is_mk _ _, Touch.of_below hg⟩
        case o27 =>
          intro vals wq hRq hpq
          simp only [factsP, List.getD_cons_zero, List.getD_cons_succ] at hpq
          have f22 := hpq.1
          replace hpq := hpq.2
          have f26 := hpq.1
          replace hpq := hpq.2
          clear hpq
          replace f22 : vals 22 = _ := f22
          replace f26 : vals 26 = _ := f26
          simp only [List.getD_cons_zero, List.getD_cons_succ, canonP, f22, f26]
          clear f22 f26
          simp only [Oper.gives]
          go_simp
          exact ⟨is_mk _ _, (Touch.refl []) _⟩
        case o28 =>
          intro vals wq hRq hpq
          simp only [factsP, List.getD_cons_zero, List.getD_cons_succ] at hpq
          have f22 := hpq.1
          replace hpq := hpq.2
          have f27 := hpq.1
          replace hpq := hpq.2
          clear hpq
          replace f22 : vals 22 = _ := f22
          replace f27 : vals 27 = _ := f27
          simp only [List.getD_cons_zero, List.getD_cons_succ, canonP, f22, f27]
          clear f22 f27
          simp only [Oper.gives]
          go_simp
          exact ⟨is_mk _ _, (Touch.refl []) _⟩
        case o29 =>
          intro vals wq hRq hpq
          simp only [factsP, List.getD_cons_zero, List.getD_cons_succ] at hpq
          have f26 := hpq.1
          replace hpq := hpq.2
          have f28 := hpq.1
          replace hpq := hpq.2
          clear hpq
          replace f26 : vals 26 = _ := f26
          replace f28 : vals 28 = _ := f28
          simp only [List.getD_cons_zero, List.getD_cons_succ, canonP, f26, f28]
          clear f26 f28
          simp only [Oper.gives]
          go_simp
          exact ⟨is_mk _ _, (Touch.refl []) _⟩
        case o30 =>
          intro vals wq hRq hpq
          simp only [factsP, List.getD_cons_zero, List.getD_cons_succ] at hpq
          have f29 := hpq.1
          replace hpq := hpq.2
          clear hpq
          replace f29 : vals 29 = _ := f29
          simp only [List.getD_cons_zero, List.getD_cons_succ, canonP, f29]
          clear f29
          simp only [Oper.gives]
          go_simp
          exact ⟨is_mk _ _, (Touch.refl []) _⟩
        case o31 =>
          intro vals wq hRq hpq
          simp only [factsP, List.getD_cons_zero, List.getD_cons_succ] at hpq
          have f29 := hpq.1
          replace hpq := hpq.2
          have f30 := hpq.1
          replace hpq := hpq.2
          clear hpq
          replace f29 : vals 29 = _ := f29
          replace f30 : vals 30 = _ := f30
          simp only [List.getD_cons_zero, List.getD_cons_succ, canonP, f29, f30]
          clear f29 f30
          simp only [Oper.gives]
          go_simp
          exact (HCQ.out wq ((Touch.drew [] _).trans hRq (by simp))).mono fun e w' ⟨v, he, hr, hg, _⟩ => ⟨_, he, hr, Touch.of_below hg⟩
        case o32 =>
          intro vals wq hRq hpq
          simp only [factsP, List.getD_cons_zero, List.getD_cons_succ] at hpq
          have f29 := hpq.1
          replace hpq := hpq.2
          clear hpq
          replace f29 : vals 29 = _ := f29
          simp only [List.getD_cons_zero, List.getD_cons_succ, canonP, f29]
          clear f29
          simp only [Oper.gives]
          go_simp
          exact ⟨is_mk _ _, (Touch.refl []) _⟩
        case o33 =>
          intro vals wq hRq hpq
          simp only [factsP, List.getD_cons_zero, List.getD_cons_succ] at hpq
          have f29 := hpq.1
          replace hpq := hpq.2
          have f31 := hpq.1
          replace hpq := hpq.2
          have f32 := hpq.1
          replace hpq := hpq.2
          clear hpq
          replace f29 : vals 29 = _ := f29
          replace f32 : vals 32 = _ := f32
          simp only [List.getD_cons_zero, List.getD_cons_succ, canonP, f29, f32]
          clear f29 f32
          simp only [Oper.gives]
          go_simp
          exact (HHY.out wq _ f31).mono fun e w' ⟨he, hg⟩ => ⟨_, he, is_mk _ _, Touch.of_below hg⟩
        case o34 =>
          intro vals wq hRq hpq
          simp only [factsP, List.getD_cons_zero, List.getD_cons_succ] at hpq
          have f29 := hpq.1
          replace hpq := hpq.2
          have f33 := hpq.1
          replace hpq := hpq.2
          clear hpq
          replace f29 : vals 29 = _ := f29
          replace f33 : vals 33 = _ := f33
          simp only [List.getD_cons_zero, List.getD_cons_succ, canonP, f29, f33]
          clear f29 f33
          simp only [Oper.gives]
          go_simp
          exact ⟨is_mk _ _, (Touch.refl []) _⟩
        case o35 =>
          intro vals wq hRq hpq
          simp only [factsP, List.getD_cons_zero, List.getD_cons_succ] at hpq
          have f33 := hpq.1
          replace hpq := hpq.2
          have f34 := hpq.1
          replace hpq := hpq.2
          clear hpq
          replace f33 : vals 33 = _ := f33
          replace f34 : vals 34 = _ := f34
          simp only [List.getD_cons_zero, List.getD_cons_succ, canonP, f33, f34]
          clear f33 f34
          simp only [Oper.gives]
          go_simp
          exact ⟨is_mk _ _, (Touch.refl []) _⟩
        case o36 =>
          intro vals wq hRq hpq
          simp only [factsP, List.getD_cons_zero, List.getD_cons_succ] at hpq
          have f35 := hpq.1
          replace hpq := hpq.2
          clear hpq
          replace f35 : vals 35 = _ := f35
          simp only [List.getD_cons_zero, List.getD_cons_succ, canonP, f35]
          clear f35
          simp only [Oper.gives]
          go_simp
          exact ⟨is_mk _ _, (Touch.refl []) _⟩
        case o37 =>
          intro vals wq hRq hpq
          simp only [factsP, List.getD_cons_zero, List.getD_cons_succ] at hpq
          have f35 := hpq.1
          replace hpq := hpq.2
          have f36 := hpq.1
          replace hpq := hpq.2
          clear hpq
          replace f35 : vals 35 = _ := f35
          replace f36 : vals 36 = _ := f36
          simp only [List.getD_cons_zero, List.getD_cons_succ, canonP, f35, f36]
          clear f35 f36
          simp only [Oper.gives]
          go_simp
          exact (HDQ.out wq ((Touch.drew [] _).trans hRq (by simp))).mono fun e w' ⟨v, he, hr, hg, _⟩ => ⟨_, he, hr, Touch.of_below hg⟩
        case o38 =>
          intro vals wq hRq hpq
          simp only [factsP, List.getD_cons_zero, List.getD_cons_succ] at hpq
          have f35 := hpq.1
          replace hpq := hpq.2
          have f37 := hpq.1
          replace hpq := hpq.2
          clear hpq
          replace f35 : vals 35 = _ := f35
          simp only [List.getD_cons_zero, List.getD_cons_succ, canonP, f35]
          clear f35
          rw [if_pos (by rfl)]
          exact gives_len_row _ rfl rfl f37 HNL.out ⟨is_mk _ _, Touch.refl _ _⟩
        case o39 =>
          intro vals wq hRq hpq
          simp only [factsP, List.getD_cons_zero, List.getD_cons_succ] at hpq
          have f35 := hpq.1
          replace hpq := hpq.2
          clear hpq
          replace f35 : vals 35 = _ := f35
          simp only [List.getD_cons_zero, List.getD_cons_succ, canonP, f35]
          clear f35
          simp only [Oper.gives]
          go_simp
          exact ⟨is_mk _ _, (Touch.refl []) _⟩
        case o40 =>
          intro vals wq hRq hpq
          simp only [factsP, List.getD_cons_zero, List.getD_cons_succ] at hpq
          have f35 := hpq.1
          replace hpq := hpq.2
          have f39 := hpq.1
          replace hpq := hpq.2
          clear hpq
          replace f35 : vals 35 = _ := f35
          replace f39 : vals 39 = _ := f39
          simp only [List.getD_cons_zero, List.getD_cons_succ, canonP, f35, f39]
          clear f35 f39
          simp only [Oper.gives]
          go_simp
          exact ⟨is_mk _ _, (Touch.refl []) _⟩
        case o41 =>
          intro vals wq hRq hpq
          simp only [factsP, List.getD_cons_zero, List.getD_cons_succ] at hpq
          have f35 := hpq.1
          replace hpq := hpq.2
          have f40 := hpq.1
          replace hpq := hpq.2
          clear hpq
          replace f35 : vals 35 = _ := f35
          replace f40 : vals 40 = _ := f40
          simp only [List.getD_cons_zero, List.getD_cons_succ, canonP, f35, f40]
          clear f35 f40
          have hs1 : (n11 : Int) - 1 = (n1 : Int) := by have := HN11.out; omega
          have hw1 : IntKind.i64.wrap (n1 : Int) = (n1 : Int) := HWR.out
          simp only [Oper.gives]
          go_simp
          exact ⟨is_mk _ _, Touch.refl _ _⟩
        case o42 =>
          intro vals wq hRq hpq
          simp only [factsP, List.getD_cons_zero, List.getD_cons_succ] at hpq
          have f35 := hpq.1
          replace hpq := hpq.2
          have f38 := hpq.1
          replace hpq := hpq.2
          have f41 := hpq.1
          replace hpq := hpq.2
          clear hpq
          replace f35 : vals 35 = _ := f35
          replace f38 : vals 38 = _ := f38
          replace f41 : vals 41 = _ := f41
          simp only [List.getD_cons_zero, List.getD_cons_succ, canonP, f35, f38, f41]
          clear f35 f38 f41
          simp only [Oper.gives]
          go_simp
          exact ⟨is_mk _ _, (Touch.refl []) _⟩
        case o43 =>
          intro vals wq hRq hpq
          simp only [factsP, List.getD_cons_zero, List.getD_cons_succ] at hpq
          have f35 := hpq.1
          replace hpq := hpq.2
          have f42 := hpq.1
          replace hpq := hpq.2
          clear hpq
          replace f35 : vals 35 = _ := f35
          replace f42 : vals 42 = _ := f42
          simp only [List.getD_cons_zero, List.getD_cons_succ, canonP, f35, f42]
          clear f35 f42
          simp only [Oper.gives]
          go_simp
          exact ⟨is_mk _ _, (Touch.refl []) _⟩
        case o44 =>
          intro vals wq hRq hpq
          simp only [factsP, List.getD_cons_zero, List.getD_cons_succ] at hpq
          have f0 := hpq.1
          replace hpq := hpq.2
          have f1 := hpq.1
          replace hpq := hpq.2
          have f2 := hpq.1
          replace hpq := hpq.2
          have f3 := hpq.1
          replace hpq := hpq.2
          have f4 := hpq.1
          replace hpq := hpq.2
          have f5 := hpq.1
          replace hpq := hpq.2
          have f6 := hpq.1
          replace hpq := hpq.2
          have f7 := hpq.1
          replace hpq := hpq.2
          have f8 := hpq.1
          replace hpq := hpq.2
          have f9 := hpq.1
          replace hpq := hpq.2
          have f10 := hpq.1
          replace hpq := hpq.2
          have f11 := hpq.1
          replace hpq := hpq.2
          have f12 := hpq.1
          replace hpq := hpq.2
          have f13 := hpq.1
          replace hpq := hpq.2
          have f14 := hpq.1
          replace hpq := hpq.2
          have f15 := hpq.1
          replace hpq := hpq.2
          have f16 := hpq.1
          replace hpq := hpq.2
          have f17 := hpq.1
          replace hpq := hpq.2
          have f18 := hpq.1
          replace hpq := hpq.2
          have f19 := hpq.1
          replace hpq := hpq.2
          have f20 := hpq.1
          replace hpq := hpq.2
          have f21 := hpq.1
          replace hpq := hpq.2
          have f22 := hpq.1
          replace hpq := hpq.2
          have f23 := hpq.1
          replace hpq := hpq.2
          have f24 := hpq.1
          replace hpq := hpq.2
          have f25 := hpq.1
          replace hpq := hpq.2
          have f26 := hpq.1
          replace hpq := hpq.2
          have f27 := hpq.1
          replace hpq := hpq.2
          have f28 := hpq.1
          replace hpq := hpq.2
          have f29 := hpq.1
          replace hpq := hpq.2
          have f30 := hpq.1
          replace hpq := hpq.2
          have f31 := hpq.1
          replace hpq := hpq.2
          have f32 := hpq.1
          replace hpq := hpq.2
          have f33 := hpq.1
          replace hpq := hpq.2
          have f34 := hpq.1
          replace hpq := hpq.2
          have f35 := hpq.1
          replace hpq := hpq.2
          have f36 := hpq.1
          replace hpq := hpq.2
          have f37 := hpq.1
          replace hpq := hpq.2
          have f38 := hpq.1
          replace hpq := hpq.2
          have f39 := hpq.1
          replace hpq := hpq.2
          have f40 := hpq.1
          replace hpq := hpq.2
          have f41 := hpq.1
          replace hpq := hpq.2
          have f42 := hpq.1
          replace hpq := hpq.2
          have f43 := hpq.1
          replace hpq := hpq.2
          clear hpq
          replace f0 : vals 0 = _ := f0
          replace f1 : vals 1 = _ := f1
          replace f2 : vals 2 = _ := f2
          replace f3 : vals 3 = _ := f3
          replace f4 : vals 4 = _ := f4
          replace f5 : vals 5 = _ := f5
          replace f6 : vals 6 = _ := f6
          replace f7 : vals 7 = _ := f7
          replace f8 : vals 8 = _ := f8
          replace f9 : vals 9 = _ := f9
          replace f10 : vals 10 = _ := f10
          replace f11 : vals 11 = _ := f11
          replace f12 : vals 12 = _ := f12
          replace f13 : vals 13 = _ := f13
          replace f14 : vals 14 = _ := f14
          replace f15 : vals 15 = _ := f15
          replace f16 : vals 16 = _ := f16
          replace f17 : vals 17 = _ := f17
          replace f18 : vals 18 = _ := f18
          replace f19 : vals 19 = _ := f19
          replace f20 : vals 20 = _ := f20
          replace f21 : vals 21 = _ := f21
          replace f22 : vals 22 = _ := f22
          replace f23 : vals 23 = _ := f23
          replace f25 : vals 25 = _ := f25
          replace f26 : vals 26 = _ := f26
          replace f27 : vals 27 = _ := f27
          replace f28 : vals 28 = _ := f28
          replace f29 : vals 29 = _ := f29
          replace f30 : vals 30 = _ := f30
          replace f32 : vals 32 = _ := f32
          replace f33 : vals 33 = _ := f33
          replace f34 : vals 34 = _ := f34
          replace f35 : vals 35 = _ := f35
          replace f36 : vals 36 = _ := f36
          replace f38 : vals 38 = _ := f38
          replace f39 : vals 39 = _ := f39
          replace f40 : vals 40 = _ := f40
          replace f41 : vals 41 = _ := f41
          replace f42 : vals 42 = _ := f42
          replace f43 : vals 43 = _ := f43
          simp only [List.getD_cons_zero, List.getD_cons_succ, canonP, f0, f1, f2, f3, f4, f5, f6, f7, f8, f9, f10, f11, f12, f13, f14, f15, f16, f17, f18, f19, f20, f21, f22, f23, f25, f26, f27, f28, f29, f30, f32, f33, f34, f35, f36, f38, f39, f40, f41, f42, f43]
          clear f0 f1 f2 f3 f4 f5 f6 f7 f8 f9 f10 f11 f12 f13 f14 f15 f16 f17 f18 f19 f20 f21 f22 f23 f25 f26 f27 f28 f29 f30 f32 f33 f34 f35 f36 f38 f39 f40 f41 f42 f43
          simp only [Oper.gives]
          go_simp
          exact ⟨is_mk _ _, (Touch.refl []) _⟩
        intro vals wz hRwz hfwz
        simp only [AllFacts] at hfwz
        have g0 := hfwz.1
        replace hfwz := hfwz.2
        have g1 := hfwz.1
        replace hfwz := hfwz.2
        have g2 := hfwz.1
        replace hfwz := hfwz.2
        have g3 := hfwz.1
        replace hfwz := hfwz.2
        have g4 := hfwz.1
        replace hfwz := hfwz.2
        have g5 := hfwz.1
        replace hfwz := hfwz.2
        have g6 := hfwz.1
        replace hfwz := hfwz.2
        have g7 := hfwz.1
        replace hfwz := hfwz.2
        have g8 := hfwz.1
        replace hfwz := hfwz.2
        have g9 := hfwz.1
        replace hfwz := hfwz.2
        have g10 := hfwz.1
        replace hfwz := hfwz.2
        have g11 := hfwz.1
        replace hfwz := hfwz.2
        have g12 := hfwz.1
        replace hfwz := hfwz.2
        have g13 := hfwz.1
        replace hfwz := hfwz.2
        have g14 := hfwz.1
        replace hfwz := hfwz.2
        have g15 := hfwz.1
        replace hfwz := hfwz.2
        have g16 := hfwz.1
        replace hfwz := hfwz.2
        have g17 := hfwz.1
        replace hfwz := hfwz.2
        have g18 := hfwz.1
        replace hfwz := hfwz.2
        have g19 := hfwz.1
        replace hfwz := hfwz.2
        have g20 := hfwz.1
        replace hfwz := hfwz.2
        have g21 := hfwz.1
        replace hfwz := hfwz.2
        have g22 := hfwz.1
        replace hfwz := hfwz.2
        have g23 := hfwz.1
        replace hfwz := hfwz.2
        have g24 := hfwz.1
        replace hfwz := hfwz.2
        have g25 := hfwz.1
        replace hfwz := hfwz.2
        have g26 := hfwz.1
        replace hfwz := hfwz.2
        have g27 := hfwz.1
        replace hfwz := hfwz.2
        have g28 := hfwz.1
        replace hfwz := hfwz.2
        have g29 := hfwz.1
        replace hfwz := hfwz.2
        have g30 := hfwz.1
        replace hfwz := hfwz.2
        have g31 := hfwz.1
        replace hfwz := hfwz.2
        have g32 := hfwz.1
        replace hfwz := hfwz.2
        have g33 := hfwz.1
        replace hfwz := hfwz.2
        have g34 := hfwz.1
        replace hfwz := hfwz.2
        have g35 := hfwz.1
        replace hfwz := hfwz.2
        have g36 := hfwz.1
        replace hfwz := hfwz.2
        have g37 := hfwz.1
        replace hfwz := hfwz.2
        have g38 := hfwz.1
        replace hfwz := hfwz.2
        have g39 := hfwz.1
        replace hfwz := hfwz.2
        have g40 := hfwz.1
        replace hfwz := hfwz.2
        have g41 := hfwz.1
        replace hfwz := hfwz.2
        have g42 := hfwz.1
        replace hfwz := hfwz.2
        have g43 := hfwz.1
        replace hfwz := hfwz.2
        have g44 := hfwz.1
        replace hfwz := hfwz.2
        clear hfwz
        replace g0 : vals 0 = _ := g0
        replace g1 : vals 1 = _ := g1
        replace g2 : vals 2 = _ := g2
        replace g3 : vals 3 = _ := g3
        replace g4 : vals 4 = _ := g4
        replace g5 : vals 5 = _ := g5
        replace g6 : vals 6 = _ := g6
        replace g7 : vals 7 = _ := g7
        replace g8 : vals 8 = _ := g8
        replace g9 : vals 9 = _ := g9
        replace g10 : vals 10 = _ := g10
        replace g11 : vals 11 = _ := g11
        replace g12 : vals 12 = _ := g12
        replace g13 : vals 13 = _ := g13
        replace g14 : vals 14 = _ := g14
        replace g15 : vals 15 = _ := g15
        replace g16 : vals 16 = _ := g16
        replace g17 : vals 17 = _ := g17
        replace g18 : vals 18 = _ := g18
        replace g19 : vals 19 = _ := g19
        replace g20 : vals 20 = _ := g20
        replace g21 : vals 21 = _ := g21
        replace g22 : vals 22 = _ := g22
        replace g23 : vals 23 = _ := g23
        replace g25 : vals 25 = _ := g25
        replace g26 : vals 26 = _ := g26
        replace g27 : vals 27 = _ := g27
        replace g28 : vals 28 = _ := g28
        replace g29 : vals 29 = _ := g29
        replace g30 : vals 30 = _ := g30
        replace g32 : vals 32 = _ := g32
        replace g33 : vals 33 = _ := g33
        replace g34 : vals 34 = _ := g34
        replace g35 : vals 35 = _ := g35
        replace g36 : vals 36 = _ := g36
        replace g38 : vals 38 = _ := g38
        replace g39 : vals 39 = _ := g39
        replace g40 : vals 40 = _ := g40
        replace g41 : vals 41 = _ := g41
        replace g42 : vals 42 = _ := g42
        replace g43 : vals 43 = _ := g43
        replace g44 : vals 44 = _ := g44
        simp only [canonP, Act.put, List.setIfInBounds_toArray, List.set_cons_succ, List.set_cons_zero, g0, g1, g2, g3, g4, g5, g6, g7, g8, g9, g10, g11, g12, g13, g14, g15, g16, g17, g18, g19, g20, g21, g22, g23, g25, g26, g27, g28, g29, g30, g32, g33, g34, g35, g36, g38, g39, g40, g41, g42, g43, g44]
        clear g0 g1 g2 g3 g4 g5 g6 g7 g8 g9 g10 g11 g12 g13 g14 g15 g16 g17 g18 g19 g20 g21 g22 g23 g24 g25 g26 g27 g28 g29 g30 g31 g32 g33 g34 g35 g36 g37 g38 g39 g40 g41 g42 g43 g44
        have HGF := Lib.hid (HI5.out.grow.trans (((Touch.drew [] W5).trans hRwz (by simp)).below (Nat.le_refl _) (by simp)))
        clear hRwz
        go_wp2_with fail
        go_ret
        exact ⟨rfl, HGF.out⟩
      · obtain ⟨q, rfl⟩ : ∃ q : Nat, k = (q : Int) := ⟨k.toNat, by omega⟩
        have ek : decide ((0 : Int) < (q : Int)) = true := by simp; omega
        obtain ⟨j, hj⟩ : ∃ j, j = q % n11 := ⟨_, rfl⟩
        have hj1 : j < n11 := by rw [hj]; exact Nat.mod_lt _ (by omega)
        have hr : (q : Int).tmod (n11 : Int) = (j : Int) := by rw [Int.tmod_eq_emod_of_nonneg (by omega), hj]; exact (Int.natCast_emod q n11).symm
        have cj := HC0.out j hj1
        have hpj : dl.getD j 0 = (c : Int) := by rw [← HPK.out]; unfold pickI; rw [HLN.out, Int.toNat_natCast, hj]
        rw [hpj] at cj
        have j0 : (0 : Int) ≤ (j : Int) := by omega
        have j1 : (j : Int) < (n11 : Int) := by omega
        clear hj hpj
        go_upto_region 13 with (fail)
        go_wp2_with fail
        refine HRD.out.mono ?_
        intro e w6 hpost
        obtain ⟨he, hg6⟩ := hpost
        subst he
        have HI6 := Lib.hid (HI3.out.later hg6)
        clear hg6 c00 e0 i0 ek hr cj j0 j1
        go_upto_region 14 with (refine wpList_store_row rfl 32 _ _ rfl w6.heap.size (bc x).toArray rfl rfl 32 Z (heap_alloc_last _ _) HSz.out HSo.out HO.out ?_)
        have hg7 : Grow w6 ((w6.alloc (.cells Z 32)).setRow w6.heap.size (bc x).toArray) := below_setRow ((Below.refl _ _).alloc (Nat.le_refl _) _) (Nat.le_refl _) _
        have HI5 := Lib.hid (HI6.out.later hg7)
        have HCX := Lib.hid (show w6.heap.size < ((w6.alloc (.cells Z 32)).setRow w6.heap.size (bc x).toArray).heap.size ∧ ((w6.alloc (.cells Z 32)).setRow w6.heap.size (bc x).toArray).heap[w6.heap.size]? = some (.cells (bc x).toArray 32) from ⟨by simp, setRow_heap _ _ _ _ _ _ (heap_alloc_last _ _)⟩)
        clear hg7
        generalize (w6.alloc (.cells Z 32)).setRow w6.heap.size (bc x).toArray = W5 at *
        obtain ⟨BX, hBX⟩ : ∃ g, g = w6.heap.size := ⟨_, rfl⟩
        rw [← hBX] at HCX
        rw [← hBX]
        clear hBX HI6 HRD HC0 HR3
        have HGL := Lib.hid (show gm < W5.heap.size from HI5.out.row.lt rfl)
        have HRG := Lib.hid (HI5.out.row.range (i := c) (c := bc x) (by rw [List.getElem?_map, HMX.out]; rfl))
        have HDQ := Lib.hid (fun wq (hq : Touch [] W5 wq) => by have := dirty_ok (HI5.out.cache.kept hq (by simp)); rw [HI5.out.good.safe] at this; exact this)
        have HCQ := Lib.hid (fun wq (hq : Touch [] W5 wq) => by have := clean_ok (HI5.out.cache.kept hq (by simp)); rw [HI5.out.good.safe] at this; exact this)
        have HHN := Lib.hid (fun wq v (hv : IRow wq v (selL N (isDirty (s.back c).f))) => by have := has_ok hv (by have := selL_length N (isDirty (s.back c).f); omega) (c : Int); rw [sel_in N _ c hcN, HDF.out] at this; exact this)
        have HHY := Lib.hid (fun wq v (hv : IRow wq v (selL N (isClean (s.back c).f (s.back c).p))) => by have := has_ok hv (by have := selL_length N (isClean (s.back c).f (s.back c).p); omega) (c : Int); rw [sel_in N _ c hcN, HCF.out] at this; exact this)
        have HNL := HN1
        unfold SelPost at HDQ HCQ
        generalize selL N (isDirty (s.back c).f) = zd at *
        generalize selL N (isClean (s.back c).f (s.back c).p) = zc at *
        refine wp_region_facts (by kernel_rfl) [[], [], [(0, some 71), (1, some 72)], [(2, some 73)], [(3, some 74)], [(3, some 74), (4, some 75)], [(3, some 74), (5, some 76)], [(6, some 77)], [(6, some 77), (7, some 78)], [(6, some 77), (8, some 79)], [(6, some 77), (9, some 80)], [(10, some 81)], [(10, some 81), (11, some 82)], [(10, some 81), (12, some 83)], [(10, some 81), (13, some 84)], [(14, some 85)], [(14, some 85)], [(14, some 85)], [(14, some 85), (16, some 87), (17, some 88)], [(14, some 85), (18, some 89)], [(14, some 85), (15, some 86), (19, some 90)], [(14, some 85), (20, some 91)], [(14, some 85), (21, some 92)], [(22, some 93)], [(22, some 93), (23, some 94)], [(22, some 93)], [(22, some 93), (24, some 95), (25, some 96)], [(22, some 93), (26, some 97)], [(22, some 93), (27, some 98)], [(26, some 97), (28, some 99)], [(29, some 100)], [(29, some 100), (30, some 101)], [(29, some 100)], [(29, some 100), (31, some 102), (32, some 103)], [(29, some 100), (33, some 104)], [(33, some 104), (34, some 105)], [(35, some 106)], [(35, some 106), (36, some 107)], [(35, some 106), (37, some 108)], [(35, some 106)], [(35, some 106), (39, some 110)], [(35, some 106), (40, some 111)], [(35, some 106), (38, some 109), (41, some 112)], [(35, some 106), (42, some 113)], [(0, some 71), (1, some 72), (2, some 73), (3, some 74), (4, some 75), (5, some 76), (6, some 77), (7, some 78), (8, some 79), (9, some 80), (10, some 81), (11, some 82), (12, some 83), (13, some 84), (14, some 85), (15, some 86), (16, some 87), (17, some 88), (18, some 89), (19, some 90), (20, some 91), (21, some 92), (22, some 93), (23, some 94), (24, some 95), (25, some 96), (26, some 97), (27, some 98), (28, some 99), (29, some 100), (30, some 101), (31, some 102), (32, some 103), (33, some 104), (34, some 105), (35, some 106), (36, some 107), (37, some 108), (38, some 109), (39, some 110), (40, some 111), (41, some 112), (42, some 113), (43, some 114)]] [(0, some 71), (1, some 72), (2, some 73), (3, some 74), (4, some 75), (5, some 76), (6, some 77), (7, some 78), (8, some 79), (9, some 80), (10, some 81), (11, some 82), (12, some 83), (13, some 84), (14, some 85), (15, some 86), (16, some 87), (17, some 88), (18, some 89), (19, some 90), (20, some 91), (21, some 92), (22, some 93), (23, some 94), (24, some 95), (25, some 96), (26, some 97), (27, some 98), (28, some 99), (29, some 100), (30, some 101), (31, some 102), (32, some 103), (33, some 104), (34, some 105), (35, some 106), (36, some 107), (37, some 108), (38, some 109), (39, some 110), (40, some 111), (41, some 112), (42, some 113), (43, some 114), (44, some 6)] (by kernel_rfl) (by kernel_rfl) (by kernel_rfl) (Touch []) (Touch.refl []) (fun _ _ _ h h' => h.trans h' (fun i hi => .inl hi)) [Is (Value.int .i64 (c : Int)), Is (Value.int .i64 (c : Int)), Is (Value.bool true), Is (Value.bool true), Is (Value.bool true), Is (Value.bool true), Is (Value.bool true), Is (Value.int .i64 0), Is (Value.bool true), Is (Value.bool true), Is (Value.bool true), Is (Value.int .i64 0), Is (Value.bool true), Is (Value.bool true), Is (Value.bool true), Is (Value.agg (bc x).toArray), Is (Value.slice (some ⟨gm, 0, none⟩) N N), Is (Value.int .i64 (c : Int)), Is (Value.pointer (some ⟨gm, c * 256, none⟩)), Is (Value.agg (bc x).toArray), Is (Value.bool true), Is (Value.bool true), Is (Value.bool true), Is (Value.pointer (some ⟨C, 0, none⟩)), (fun v wx => IRow wx v (zd)), Is (Value.int .i64 (c : Int)), Is (Value.bool false), Is (Value.bool true), Is (Value.bool true), Is (Value.bool true), Is (Value.pointer (some ⟨C, 0, none⟩)), (fun v wx => IRow wx v (zc)), Is (Value.int .i64 (c : Int)), Is (Value.bool true), Is (Value.bool true), Is (Value.bool true), Is (Value.pointer (some ⟨C, 0, none⟩)), (fun v wx => IRow wx v (zd)), Is (Value.int .i64 (n1 : Int)), Is (Value.slice (some ⟨g11, 0, none⟩) n11 c11), Is (Value.int .i64 (n11 : Int)), Is (Value.int .i64 (n1 : Int)), Is (Value.bool true), Is (Value.bool true), Is (Value.bool true)] rfl ⟨is_stab _ _, is_stab _ _, is_stab _ _, is_stab _ _, is_stab _ _, is_stab _ _, is_stab _ _, is_stab _ _, is_stab _ _, is_stab _ _, is_stab _ _, is_stab _ _, is_stab _ _, is_stab _ _, is_stab _ _, is_stab _ _, is_stab _ _, is_stab _ _, is_stab _ _, is_stab _ _, is_stab _ _, is_stab _ _, is_stab _ _, is_stab _ _, (fun v w w' h1 h2 => Row.kept h2 h1 (by simp)), is_stab _ _, is_stab _ _, is_stab _ _, is_stab _ _, is_stab _ _, is_stab _ _, (fun v w w' h1 h2 => Row.kept h2 h1 (by simp)), is_stab _ _, is_stab _ _, is_stab _ _, is_stab _ _, is_stab _ _, (fun v w w' h1 h2 => Row.kept h2 h1 (by simp)), is_stab _ _, is_stab _ _, is_stab _ _, is_stab _ _, is_stab _ _, is_stab _ _, is_stab _ _, trivial⟩ ⟨?o0, ?o1, ?o2, ?o3, ?o4, ?o5, ?o6, ?o7, ?o8, ?o9, ?o10, ?o11, ?o12, ?o13, ?o14, ?o15, ?o16, ?o17, ?o18, ?o19, ?o20, ?o21, ?o22, ?o23, ?o24, ?o25, ?o26, ?o27, ?o28, ?o29, ?o30, ?o31, ?o32, ?o33, ?o34, ?o35, ?o36, ?o37, ?o38, ?o39, ?o40, ?o41, ?o42, ?o43, ?o44, trivial⟩ ?_
        case o0 =>
          intro vals wq hRq hpq
          simp only [List.getD_cons_zero, List.getD_cons_succ, canonP]
          simp only [Oper.gives]
          go_simp
          exact ⟨is_mk _ _, (Touch.refl []) _⟩
        case o1 =>
          intro vals wq hRq hpq
          simp only [List.getD_cons_zero, List.getD_cons_succ, canonP]
          simp only [Oper.gives]
          go_simp
          exact ⟨is_mk _ _, (Touch.refl []) _⟩
        case o2 =>
          intro vals wq hRq hpq
          simp only [factsP, List.getD_cons_zero, List.getD_cons_succ] at hpq
          have f0 := hpq.1
          replace hpq := hpq.2
          have f1 := hpq.1
          replace hpq := hpq.2
          clear hpq
          replace f0 : vals 0 = _ := f0
          replace f1 : vals 1 = _ := f1
          simp only [List.getD_cons_zero, List.getD_cons_succ, canonP, f0, f1]
          clear f0 f1
          simp only [Oper.gives]
          go_simp
          exact ⟨is_mk _ _, (Touch.refl []) _⟩
        case o3 =>
          intro vals wq hRq hpq
          simp only [factsP, List.getD_cons_zero, List.getD_cons_succ] at hpq
          have f2 := hpq.1
          replace hpq := hpq.2
          clear hpq
          replace f2 : vals 2 = _ := f2
          simp only [List.getD_cons_zero, List.getD_cons_succ, canonP, f2]
          clear f2
          simp only [Oper.gives]
          go_simp
          exact ⟨is_mk _ _, (Touch.refl []) _⟩
        case o4 =>
          intro vals wq hRq hpq
          simp only [factsP, List.getD_cons_zero, List.getD_cons_succ] at hpq
          have f3 := hpq.1
          replace hpq := hpq.2
          clear hpq
          replace f3 : vals 3 = _ := f3
          simp only [List.getD_cons_zero, List.getD_cons_succ, canonP, f3]
          clear f3
          simp only [Oper.gives]
          go_simp
          exact ⟨is_mk _ _, (Touch.refl []) _⟩
        case o5 =>
          intro vals wq hRq hpq
          simp only [factsP, List.getD_cons_zero, List.getD_cons_succ] at hpq
          have f3 := hpq.1
          replace hpq := hpq.2
          have f4 := hpq.1
          replace hpq := hpq.2
          clear hpq
          replace f3 : vals 3 = _ := f3
          replace f4 : vals 4 = _ := f4
          simp only [List.getD_cons_zero, List.getD_cons_succ, canonP, f3, f4]
          clear f3 f4
          simp only [Oper.gives]
          go_simp
          exact ⟨is_mk _ _, (Touch.refl []) _⟩
        case o6 =>
          intro vals wq hRq hpq
          simp only [factsP, List.getD_cons_zero, List.getD_cons_succ] at hpq
          have f3 := hpq.1
          replace hpq := hpq.2
          have f5 := hpq.1
          replace hpq := hpq.2
          clear hpq
          replace f3 : vals 3 = _ := f3
          replace f5 : vals 5 = _ := f5
          simp only [List.getD_cons_zero, List.getD_cons_succ, canonP, f3, f5]
          clear f3 f5
          simp only [Oper.gives]
          go_simp
          exact ⟨is_mk _ _, (Touch.refl []) _⟩
        case o7 =>
          intro vals wq hRq hpq
          simp only [factsP, List.getD_cons_zero, List.getD_cons_succ] at hpq
          have f6 := hpq.1
          replace hpq := hpq.2
          clear hpq
          replace f6 : vals 6 = _ := f6
          simp only [List.getD_cons_zero, List.getD_cons_succ, canonP, f6]
          clear f6
          simp only [Oper.gives]
          go_simp
          exact ⟨is_mk _ _, (Touch.refl []) _⟩
        case o8 =>
          intro vals wq hRq hpq
          simp only [factsP, List.getD_cons_zero, List.getD_cons_succ] at hpq
          have f6 := hpq.1
          replace hpq := hpq.2
          have f7 := hpq.1
          replace hpq := hpq.2
          clear hpq
          replace f6 : vals 6 = _ := f6
          replace f7 : vals 7 = _ := f7
          simp only [List.getD_cons_zero, List.getD_cons_succ, canonP, f6, f7]
          clear f6 f7
          simp only [Oper.gives]
          go_simp
          exact ⟨is_mk _ _, (Touch.refl []) _⟩
        case o9 =>
          intro vals wq hRq hpq
          simp only [factsP, List.getD_cons_zero, List.getD_cons_succ] at hpq
          have f6 := hpq.1
          replace hpq := hpq.2
          have f8 := hpq.1
          replace hpq := hpq.2
          clear hpq
          replace f6 : vals 6 = _ := f6
          replace f8 : vals 8 = _ := f8
          simp only [List.getD_cons_zero, List.getD_cons_succ, canonP, f6, f8]
          clear f6 f8
          simp only [Oper.gives]
          go_simp
          exact ⟨is_mk _ _, (Touch.refl []) _⟩
        case o10 =>
          intro vals wq hRq hpq
          simp only [factsP, List.getD_cons_zero, List.getD_cons_succ] at hpq
          have f6 := hpq.1
          replace hpq := hpq.2
          have f9 := hpq.1
          replace hpq := hpq.2
          clear hpq
          replace f6 : vals 6 = _ := f6
          replace f9 : vals 9 = _ := f9
          simp only [List.getD_cons_zero, List.getD_cons_succ, canonP, f6, f9]
          clear f6 f9
          simp only [Oper.gives]
          go_simp
          exact ⟨is_mk _ _, (Touch.refl []) _⟩
        case o11 =>
          intro vals wq hRq hpq
          simp only [factsP, List.getD_cons_zero, List.getD_cons_succ] at hpq
          have f10 := hpq.1
          replace hpq := hpq.2
          clear hpq
          replace f10 : vals 10 = _ := f10
          simp only [List.getD_cons_zero, List.getD_cons_succ, canonP, f10]
          clear f10
          simp only [Oper.gives]
          go_simp
          exact ⟨is_mk _ _, (Touch.refl []) _⟩
        case o12 =>
          intro vals wq hRq hpq
          simp only [factsP, List.getD_cons_zero, List.getD_cons_succ] at hpq
          have f10 := hpq.1
          replace hpq := hpq.2
          have f11 := hpq.1
          replace hpq := hpq.2
          clear hpq
          replace f10 : vals 10 = _ := f10
          replace f11 : vals 11 = _ := f11
          simp only [List.getD_cons_zero, List.getD_cons_succ, canonP, f10, f11]
          clear f10 f11
          simp only [Oper.gives]
          go_simp
          exact ⟨is_mk _ _, (Touch.refl []) _⟩
        case o13 =>
          intro vals wq hRq hpq
          simp only [factsP, List.getD_cons_zero, List.getD_cons_succ] at hpq
          have f10 := hpq.1
          replace hpq := hpq.2
          have f12 := hpq.1
          replace hpq := hpq.2
          clear hpq
          replace f10 : vals 10 = _ := f10
          replace f12 : vals 12 = _ := f12
          simp only [List.getD_cons_zero, List.getD_cons_succ, canonP, f10, f12]
          clear f10 f12
          simp only [Oper.gives]
          go_simp
          exact ⟨is_mk _ _, (Touch.refl []) _⟩
        case o14 =>
          intro vals wq hRq hpq
          simp only [factsP, List.getD_cons_zero, List.getD_cons_succ] at hpq
          have f10 := hpq.1
          replace hpq := hpq.2
          have f13 := hpq.1
          replace hpq := hpq.2
          clear hpq
          replace f10 : vals 10 = _ := f10
          replace f13 : vals 13 = _ := f13
          simp only [List.getD_cons_zero, List.getD_cons_succ, canonP, f10, f13]
          clear f10 f13
          simp only [Oper.gives]
          go_simp
          exact ⟨is_mk _ _, (Touch.refl []) _⟩
        case o15 =>
          intro vals wq hRq hpq
          simp only [factsP, List.getD_cons_zero, List.getD_cons_succ] at hpq
          have f14 := hpq.1
          replace hpq := hpq.2
          clear hpq
          replace f14 : vals 14 = _ := f14
          simp only [List.getD_cons_zero, List.getD_cons_succ, canonP, f14]
          clear f14
          have hbx : wq.heap[BX]? = some (.cells (bc x).toArray 32) := (Touch.block ((Touch.drew [] _).trans hRq (by simp)) BX HCX.out.1 (by simp)).trans HCX.out.2
          rw [if_pos (by rfl)]
          exact gives_load_row 32 _ rfl BX rfl 32 (bc x).toArray (0, 0) _ hbx Try.underlying32 rfl HSz.out ⟨is_mk _ _, Touch.refl _ _⟩
        case o16 =>
          intro vals wq hRq hpq
          simp only [factsP, List.getD_cons_zero, List.getD_cons_succ] at hpq
          have f14 := hpq.1
          replace hpq := hpq.2
          clear hpq
          replace f14 : vals 14 = _ := f14
          simp only [List.getD_cons_zero, List.getD_cons_succ, canonP, f14]
          clear f14
          simp only [Oper.gives]
          go_simp
          exact ⟨is_mk _ _, (Touch.refl []) _⟩
        case o17 =>
          intro vals wq hRq hpq
          simp only [factsP, List.getD_cons_zero, List.getD_cons_succ] at hpq
          have f14 := hpq.1
          replace hpq := hpq.2
          clear hpq
          replace f14 : vals 14 = _ := f14
          simp only [List.getD_cons_zero, List.getD_cons_succ, canonP, f14]
          clear f14
          simp only [Oper.gives]
          go_simp
          exact ⟨is_mk _ _, (Touch.refl []) _⟩
        case o18 =>
          intro vals wq hRq hpq
          simp only [factsP, List.getD_cons_zero, List.getD_cons_succ] at hpq
          have f14 := hpq.1
          replace hpq := hpq.2
          have f16 := hpq.1
          replace hpq := hpq.2
          have f17 := hpq.1
          replace hpq := hpq.2
          clear hpq
          replace f14 : vals 14 = _ := f14
          replace f16 : vals 16 = _ := f16
          replace f17 : vals 17 = _ := f17
          simp only [List.getD_cons_zero, List.getD_cons_succ, canonP, f14, f16, f17]
          clear f14 f16 f17
          have hb0 : (0 : Int) ≤ (c : Int) := by omega
          have hb1 : (c : Int) < (N : Int) := by omega
          simp only [Oper.gives]
          go_simp
          exact ⟨is_mk _ _, Touch.refl _ _⟩
        case o19 =>
          intro vals wq hRq hpq
          simp only [factsP, List.getD_cons_zero, List.getD_cons_succ] at hpq
          have f14 := hpq.1
          replace hpq := hpq.2
          have f18 := hpq.1
          replace hpq := hpq.2
          clear hpq
          replace f14 : vals 14 = _ := f14
          replace f18 : vals 18 = _ := f18
          simp only [List.getD_cons_zero, List.getD_cons_succ, canonP, f14, f18]
          clear f14 f18
          have hrr := range_touch HRG.out ((Touch.drew [] _).trans hRq (by simp)) HGL.out (by simp)
          rw [if_pos (by rfl)]
          exact gives_load_mid 32 _ rfl gm (c * 256) rfl (bc x) _ hrr Try.underlying32 rfl HSl.out ⟨is_mk _ _, Touch.refl _ _⟩
        case o20 =>
          intro vals wq hRq hpq
          simp only [factsP, List.getD_cons_zero, List.getD_cons_succ] at hpq
          have f14 := hpq.1
          replace hpq := hpq.2
          have f15 := hpq.1
          replace hpq := hpq.2
          have f19 := hpq.1
          replace hpq := hpq.2
          clear hpq
          replace f14 : vals 14 = _ := f14
          replace f15 : vals 15 = _ := f15
          replace f19 : vals 19 = _ := f19
          simp only [List.getD_cons_zero, List.getD_cons_succ, canonP, f14, f15, f19]
          clear f14 f15 f19
          have hq1 := HEQ.out
          have hgT := guardT
          simp only [Oper.gives]
          go_simp
          exact ⟨is_mk _ _, Touch.refl _ _⟩
        case o21 =>
          intro vals wq hRq hpq
          simp only [factsP, List.getD_cons_zero, List.getD_cons_succ] at hpq
          have f14 := hpq.1
          replace hpq := hpq.2
          have f20 := hpq.1
          replace hpq := hpq.2
          clear hpq
          replace f14 : vals 14 = _ := f14
          replace f20 : vals 20 = _ := f20
          simp only [List.getD_cons_zero, List.getD_cons_succ, canonP, f14, f20]
          clear f14 f20
          simp only [Oper.gives]
          go_simp
          exact ⟨is_mk _ _, (Touch.refl []) _⟩
        case o22 =>
          intro vals wq hRq hpq
          simp only [factsP, List.getD_cons_zero, List.getD_cons_succ] at hpq
          have f14 := hpq.1
          replace hpq := hpq.2
          have f21 := hpq.1
          replace hpq := hpq.2
          clear hpq
          replace f14 : vals 14 = _ := f14
          replace f21 : vals 21 = _ := f21
          simp only [List.getD_cons_zero, List.getD_cons_succ, canonP, f14, f21]
          clear f14 f21
          simp only [Oper.gives]
          go_simp
          exact ⟨is_mk _ _, (Touch.refl []) _⟩
        case o23 =>
          intro vals wq hRq hpq
          simp only [factsP, List.getD_cons_zero, List.getD_cons_succ] at hpq
          have f22 := hpq.1
          replace hpq := hpq.2
          clear hpq
          replace f22 : vals 22 = _ := f22
          simp only [List.getD_cons_zero, List.getD_cons_succ, canonP, f22]
          clear f22
          simp only [Oper.gives]
          go_simp
          exact ⟨is_mk _ _, (Touch.refl []) _⟩
        case o24 =>
          intro vals wq hRq hpq
          simp only [factsP, List.getD_cons_zero, List.getD_cons_succ] at hpq
          have f22 := hpq.1
          replace hpq := hpq.2
          have f23 := hpq.1
          replace hpq := hpq.2
          clear hpq
          replace f22 : vals 22 = _ := f22
          replace f23 : vals 23 = _ := f23
          simp only [List.getD_cons_zero, List.getD_cons_succ, canonP, f22, f23]
          clear f22 f23
          simp only [Oper.gives]
          go_simp
          exact (HDQ.out wq ((Touch.drew [] _).trans hRq (by simp))).mono fun e w' ⟨v, he, hr, hg, _⟩ => ⟨_, he, hr, Touch.of_below hg⟩
        case o25 =>
          intro vals wq hRq hpq
          simp only [factsP, List.getD_cons_zero, List.getD_cons_succ] at hpq
          have f22 := hpq.1
          replace hpq := hpq.2
          clear hpq
          replace f22 : vals 22 = _ := f22
          simp only [List.getD_cons_zero, List.getD_cons_succ, canonP, f22]
          clear f22
          simp only [Oper.gives]
          go_simp
          exact ⟨is_mk _ _, (Touch.refl []) _⟩
        case o26 =>
          intro vals wq hRq hpq
          simp only [factsP, List.getD_cons_zero, List.getD_cons_succ] at hpq
          have f22 := hpq.1
          replace hpq := hpq.2
          have f24 := hpq.1
          replace hpq := hpq.2
          have f25 := hpq.1
          replace hpq := hpq.2
          clear hpq
          replace f22 : vals 22 = _ := f22
          replace f25 : vals 25 = _ := f25
          simp only [List.getD_cons_zero, List.getD_cons_succ, canonP, f22, f25]
          clear f22 f25
          simp only [Oper.gives]
          go_simp
          exact (HHN.out wq _ f24).mono fun e w' ⟨he, hg⟩ => ⟨_, he, is_mk _ _, Touch.of_below hg⟩
        case o27 =>
          intro vals wq hRq hpq
          simp only [factsP, List.getD_cons_zero, List.getD_cons_succ] at hpq
          have f22 := hpq.1
          replace hpq := hpq.2
          have f26 := hpq.1
          replace hpq := hpq.2
          clear hpq
          replace f22 : vals 22 = _ := f22
          replace f26 : vals 26 = _ := f26
          simp only [List.getD_cons_zero, List.getD_cons_succ, canonP, f22, f26]
          clear f22 f26
          simp only [Oper.gives]
          go_simp
          exact ⟨is_mk _ _, (Touch.refl []) _⟩
        case o28 =>
          intro vals wq hRq hpq
          simp only [factsP, List.getD_cons_zero, List.getD_cons_succ] at hpq
          have f22 := hpq.1
          replace hpq := hpq.2
          have f27 := hpq.1
          replace hpq := hpq.2
          clear hpq
          replace f22 : vals 22 = _ := f22
          replace f27 : vals 27 = _ := f27
          simp only [List.getD_cons_zero, List.getD_cons_succ, canonP, f22, f27]
          clear f22 f27
          simp only [Oper.gives]
          go_simp
          exact ⟨is_mk _ _, (Touch.refl []) _⟩
        case o29 =>
          intro vals wq hRq hpq
          simp only [factsP, List.getD_cons_zero, List.getD_cons_succ] at hpq
          have f26 := hpq.1
          replace hpq := hpq.2
          have f28 := hpq.1
          replace hpq := hpq.2
          clear hpq
          replace f26 : vals 26 = _ := f26
          replace f28 : vals 28 = _ := f28
          simp only [List.getD_cons_zero, List.getD_cons_succ, canonP, f26, f28]
          clear f26 f28
          simp only [Oper.gives]
          go_simp
          exact ⟨is_mk _ _, (Touch.refl []) _⟩
        case o30 =>
          intro vals wq hRq hpq
          simp only [factsP, List.getD_cons_zero, List.getD_cons_succ] at hpq
          have f29 := hpq.1
          replace hpq := hpq.2
          clear hpq
          replace f29 : vals 29 = _ := f29
          simp only [List.getD_cons_zero, List.getD_cons_succ, canonP, f29]
          clear f29
          simp only [Oper.gives]
          go_simp
          exact ⟨is_mk _ _, (Touch.refl []) _⟩
        case o31 =>
          intro vals wq hRq hpq
          simp only [factsP, List.getD_cons_zero, List.getD_cons_succ] at hpq
          have f29 := hpq.1
          replace hpq := hpq.2
          have f30 := hpq.1
          replace hpq := hpq.2
          clear hpq
          replace f29 : vals 29 = _ := f29
          replace f30 : vals 30 = _ := f30
          simp only [List.getD_cons_zero, List.getD_cons_succ, canonP, f29, f30]
          clear f29 f30
          simp only [Oper.gives]
          go_simp
          exact (HCQ.out wq ((Touch.drew [] _).trans hRq (by simp))).mono fun e w' ⟨v, he, hr, hg, _⟩ => ⟨_, he, hr, Touch.of_below hg⟩
        case o32 =>
          intro vals wq hRq hpq
          simp only [factsP, List.getD_cons_zero, List.getD_cons_succ] at hpq
          have f29 := hpq.1
          replace hpq := hpq.2
          clear hpq
          replace f29 : vals 29 = _ := f29
          simp only [List.getD_cons_zero, List.getD_cons_succ, canonP, f29]
          clear f29
          simp only [Oper.gives]
          go_simp
          exact ⟨is_mk _ _, (Touch.refl []) _⟩
        case o33 =>
          intro vals wq hRq hpq
          simp only [factsP, List.getD_cons_zero, List.getD_cons_succ] at hpq
          have f29 := hpq.1
          replace hpq := hpq.2
          have f31 := hpq.1
          replace hpq := hpq.2
          have f32 := hpq.1
          replace hpq := hpq.2
          clear hpq
          replace f29 : vals 29 = _ := f29
          replace f32 : vals 32 = _ := f32
          simp only [List.getD_cons_zero, List.getD_cons_succ, canonP, f29, f32]
          clear f29 f32
          simp only [Oper.gives]
          go_simp
          exact (HHY.out wq _ f31).mono fun e w' ⟨he, hg⟩ => ⟨_, he, is_mk _ _, Touch.of_below hg⟩
        case o34 =>
          intro vals wq hRq hpq
          simp only [factsP, List.getD_cons_zero, List.getD_cons_succ] at hpq
          have f29 := hpq.1
          replace hpq := hpq.2
          have f33 := hpq.1
          replace hpq := hpq.2
          clear hpq
          replace f29 : vals 29 = _ := f29
          replace f33 : vals 33 = _ := f33
          simp only [List.getD_cons_zero, List.getD_cons_succ, canonP, f29, f33]
          clear f29 f33
          simp only [Oper.gives]
          go_simp
          exact ⟨is_mk _ _, (Touch.refl []) _⟩
        case o35 =>
          intro vals wq hRq hpq
          simp only [factsP, List.getD_cons_zero, List.getD_cons_succ] at hpq
          have f33 := hpq.1
          replace hpq := hpq.2
          have f34 := hpq.1
          replace hpq := hpq.2
          clear hpq
          replace f33 : vals 33 = _ := f33
          replace f34 : vals 34 = _ := f34
          simp only [List.getD_cons_zero, List.getD_cons_succ, canonP, f33, f34]
          clear f33 f34
          simp only [Oper.gives]
          go_simp
          exact ⟨is_mk _ _, (Touch.refl []) _⟩
        case o36 =>
          intro vals wq hRq hpq
          simp only [factsP, List.getD_cons_zero, List.getD_cons_succ] at hpq
          have f35 := hpq.1
          replace hpq := hpq.2
          clear hpq
          replace f35 : vals 35 = _ := f35
          simp only [List.getD_cons_zero, List.getD_cons_succ, canonP, f35]
          clear f35
          simp only [Oper.gives]
          go_simp
          exact ⟨is_mk _ _, (Touch.refl []) _⟩
        case o37 =>
          intro vals wq hRq hpq
          simp only [factsP, List.getD_cons_zero, List.getD_cons_succ] at hpq
          have f35 := hpq.1
          replace hpq := hpq.2
          have f36 := hpq.1
          replace hpq := hpq.2
          clear hpq
          replace f35 : vals 35 = _ := f35
          replace f36 : vals 36 = _ := f36
          simp only [List.getD_cons_zero, List.getD_cons_succ, canonP, f35, f36]
          clear f35 f36
          simp only [Oper.gives]
          go_simp
          exact (HDQ.out wq ((Touch.drew [] _).trans hRq (by simp))).mono fun e w' ⟨v, he, hr, hg, _⟩ => ⟨_, he, hr, Touch.of_below hg⟩
        case o38 =>
          intro vals wq hRq hpq
          simp only [factsP, List.getD_cons_zero, List.getD_cons_succ] at hpq
          have f35 := hpq.1
          replace hpq := hpq.2
          have f37 := hpq.1
          replace hpq := hpq.2
          clear hpq
          replace f35 : vals 35 = _ := f35
          simp only [List.getD_cons_zero, List.getD_cons_succ, canonP, f35]
          clear f35
          rw [if_pos (by rfl)]
          exact gives_len_row _ rfl rfl f37 HNL.out ⟨is_mk _ _, Touch.refl _ _⟩
        case o39 =>
          intro vals wq hRq hpq
          simp only [factsP, List.getD_cons_zero, List.getD_cons_succ] at hpq
          have f35 := hpq.1
          replace hpq := hpq.2
          clear hpq
          replace f35 : vals 35 = _ := f35
          simp only [List.getD_cons_zero, List.getD_cons_succ, canonP, f35]
          clear f35
          simp only [Oper.gives]
          go_simp
          exact ⟨is_mk _ _, (Touch.refl []) _⟩
        case o40 =>
          intro vals wq hRq hpq
          simp only [factsP, List.getD_cons_zero, List.getD_cons_succ] at hpq
          have f35 := hpq.1
          replace hpq := hpq.2
          have f39 := hpq.1
          replace hpq := hpq.2
          clear hpq
          replace f35 : vals 35 = _ := f35
          replace f39 : vals 39 = _ := f39
          simp only [List.getD_cons_zero, List.getD_cons_succ, canonP, f35, f39]
          clear f35 f39
          simp only [Oper.gives]
          go_simp
          exact ⟨is_mk _ _, (Touch.refl []) _⟩
        case o41 =>
          intro vals wq hRq hpq
          simp only [factsP, List.getD_cons_zero, List.getD_cons_succ] at hpq
          have f35 := hpq.1
          replace hpq := hpq.2
          have f40 := hpq.1
          replace hpq := hpq.2
          clear hpq
          replace f35 : vals 35 = _ := f35
          replace f40 : vals 40 = _ := f40
          simp only [List.getD_cons_zero, List.getD_cons_succ, canonP, f35, f40]
          clear f35 f40
          have hs1 : (n11 : Int) - 1 = (n1 : Int) := by have := HN11.out; omega
          have hw1 : IntKind.i64.wrap (n1 : Int) = (n1 : Int) := HWR.out
          simp only [Oper.gives]
          go_simp
          exact ⟨is_mk _ _, Touch.refl _ _⟩
        case o42 =>
          intro vals wq hRq hpq
          simp only [factsP, List.getD_cons_zero, List.getD_cons_succ] at hpq
          have f35 := hpq.1
          replace hpq := hpq.2
          have f38 := hpq.1
          replace hpq := hpq.2
          have f41 := hpq.1
          replace hpq := hpq.2
          clear hpq
          replace f35 : vals 35 = _ := f35
          replace f38 : vals 38 = _ := f38
          replace f41 : vals 41 = _ := f41
          simp only [List.getD_cons_zero, List.getD_cons_succ, canonP, f35, f38, f41]
          clear f35 f38 f41
          simp only [Oper.gives]
          go_simp
          exact ⟨is_mk _ _, (Touch.refl []) _⟩
        case o43 =>
          intro vals wq hRq hpq
          simp only [factsP, List.getD_cons_zero, List.getD_cons_succ] at hpq
          have f35 := hpq.1
          replace hpq := hpq.2
          have f42 := hpq.1
          replace hpq := hpq.2
          clear hpq
          replace f35 : vals 35 = _ := f35
          replace f42 : vals 42 = _ := f42
          simp only [List.getD_cons_zero, List.getD_cons_succ, canonP, f35, f42]
          clear f35 f42
          simp only [Oper.gives]
          go_simp
          exact ⟨is_mk _ _, (Touch.refl []) _⟩
        case o44 =>
          intro vals wq hRq hpq
          simp only [factsP, List.getD_cons_zero, List.getD_cons_succ] at hpq
          have f0 := hpq.1
          replace hpq := hpq.2
          have f1 := hpq.1
          replace hpq := hpq.2
          have f2 := hpq.1
          replace hpq := hpq.2
          have f3 := hpq.1
          replace hpq := hpq.2
          have f4 := hpq.1
          replace hpq := hpq.2
          have f5 := hpq.1
          replace hpq := hpq.2
          have f6 := hpq.1
          replace hpq := hpq.2
          have f7 := hpq.1
          replace hpq := hpq.2
          have f8 := hpq.1
          replace hpq := hpq.2
          have f9 := hpq.1
          replace hpq := hpq.2
          have f10 := hpq.1
          replace hpq := hpq.2
          have f11 := hpq.1
          replace hpq := hpq.2
          have f12 := hpq.1
          replace hpq := hpq.2
          have f13 := hpq.1
          replace hpq := hpq.2
          have f14 := hpq.1
          replace hpq := hpq.2
          have f15 := hpq.1
          replace hpq := hpq.2
          have f16 := hpq.1
          replace hpq := hpq.2
          have f17 := hpq.1
          replace hpq := hpq.2
          have f18 := hpq.1
          replace hpq := hpq.2
          have f19 := hpq.1
          replace hpq := hpq.2
          have f20 := hpq.1
          replace hpq := hpq.2
          have f21 := hpq.1
          replace hpq := hpq.2
          have f22 := hpq.1
          replace hpq := hpq.2
          have f23 := hpq.1
          replace hpq := hpq.2
          have f24 := hpq.1
          replace hpq := hpq.2
          have f25 := hpq.1
          replace hpq := hpq.2
          have f26 := hpq.1
          replace hpq := hpq.2
          have f27 := hpq.1
          replace hpq := hpq.2
          have f28 := hpq.1
          replace hpq := hpq.2
          have f29 := hpq.1
          replace hpq := hpq.2
          have f30 := hpq.1
          replace hpq := hpq.2
          have f31 := hpq.1
          replace hpq := hpq.2
          have f32 := hpq.1
          replace hpq := hpq.2
          have f33 := hpq.1
          replace hpq := hpq.2
          have f34 := hpq.1
          replace hpq := hpq.2
          have f35 := hpq.1
          replace hpq := hpq.2
          have f36 := hpq.1
          replace hpq := hpq.2
          have f37 := hpq.1
          replace hpq := hpq.2
          have f38 := hpq.1
          replace hpq := hpq.2
          have f39 := hpq.1
          replace hpq := hpq.2
          have f40 := hpq.1
          replace hpq := hpq.2
          have f41 := hpq.1
          replace hpq := hpq.2
          have f42 := hpq.1
          replace hpq := hpq.2
          have f43 := hpq.1
          replace hpq := hpq.2
          clear hpq
          replace f0 : vals 0 = _ := f0
          replace f1 : vals 1 = _ := f1
          replace f2 : vals 2 = _ := f2
          replace f3 : vals 3 = _ := f3
          replace f4 : vals 4 = _ := f4
          replace f5 : vals 5 = _ := f5
          replace f6 : vals 6 = _ := f6
          replace f7 : vals 7 = _ := f7
          replace f8 : vals 8 = _ := f8
          replace f9 : vals 9 = _ := f9
          replace f10 : vals 10 = _ := f10
          replace f11 : vals 11 = _ := f11
          replace f12 : vals 12 = _ := f12
          replace f13 : vals 13 = _ := f13
          replace f14 : vals 14 = _ := f14
          replace f15 : vals 15 = _ := f15
          replace f16 : vals 16 = _ := f16
          replace f17 : vals 17 = _ := f17
          replace f18 : vals 18 = _ := f18
          replace f19 : vals 19 = _ := f19
          replace f20 : vals 20 = _ := f20
          replace f21 : vals 21 = _ := f21
          replace f22 : vals 22 = _ := f22
          replace f23 : vals 23 = _ := f23
          replace f25 : vals 25 = _ := f25
          replace f26 : vals 26 = _ := f26
          replace f27 : vals 27 = _ := f27
          replace f28 : vals 28 = _ := f28
          replace f29 : vals 29 = _ := f29
          replace f30 : vals 30 = _ := f30
          replace f32 : vals 32 = _ := f32
          replace f33 : vals 33 = _ := f33
          replace f34 : vals 34 = _ := f34
          replace f35 : vals 35 = _ := f35
          replace f36 : vals 36 = _ := f36
          replace f38 : vals 38 = _ := f38
          replace f39 : vals 39 = _ := f39
          replace f40 : vals 40 = _ := f40
          replace f41 : vals 41 = _ := f41
          replace f42 : vals 42 = _ := f42
          replace f43 : vals 43 = _ := f43
          simp only [List.getD_cons_zero, List.getD_cons_succ, canonP, f0, f1, f2, f3, f4, f5, f6, f7, f8, f9, f10, f11, f12, f13, f14, f15, f16, f17, f18, f19, f20, f21, f22, f23, f25, f26, f27, f28, f29, f30, f32, f33, f34, f35, f36, f38, f39, f40, f41, f42, f43]
          clear f0 f1 f2 f3 f4 f5 f6 f7 f8 f9 f10 f11 f12 f13 f14 f15 f16 f17 f18 f19 f20 f21 f22 f23 f25 f26 f27 f28 f29 f30 f32 f33 f34 f35 f36 f38 f39 f40 f41 f42 f43
          simp only [Oper.gives]
          go_simp
          exact ⟨is_mk _ _, (Touch.refl []) _⟩
        intro vals wz hRwz hfwz
        simp only [AllFacts] at hfwz
        have g0 := hfwz.1
        replace hfwz := hfwz.2
        have g1 := hfwz.1
        replace hfwz := hfwz.2
        have g2 := hfwz.1
        replace hfwz := hfwz.2
        have g3 := hfwz.1
        replace hfwz := hfwz.2
        have g4 := hfwz.1
        replace hfwz := hfwz.2
        have g5 := hfwz.1
        replace hfwz := hfwz.2
        have g6 := hfwz.1
        replace hfwz := hfwz.2
        have g7 := hfwz.1
        replace hfwz := hfwz.2
        have g8 := hfwz.1
        replace hfwz := hfwz.2
        have g9 := hfwz.1
        replace hfwz := hfwz.2
        have g10 := hfwz.1
        replace hfwz := hfwz.2
        have g11 := hfwz.1
        replace hfwz := hfwz.2
        have g12 := hfwz.1
        replace hfwz := hfwz.2
        have g13 := hfwz.1
        replace hfwz := hfwz.2
        have g14 := hfwz.1
        replace hfwz := hfwz.2
        have g15 := hfwz.1
        replace hfwz := hfwz.2
        have g16 := hfwz.1
        replace hfwz := hfwz.2
        have g17 := hfwz.1
        replace hfwz := hfwz.2
        have g18 := hfwz.1
        replace hfwz := hfwz.2
        have g19 := hfwz.1
        replace hfwz := hfwz.2
        have g20 := hfwz.1
        replace hfwz := hfwz.2
        have g21 := hfwz.1
        replace hfwz := hfwz.2
        have g22 := hfwz.1
        replace hfwz := hfwz.2
        have g23 := hfwz.1
        replace hfwz := hfwz.2
        have g24 := hfwz.1
        replace hfwz := hfwz.2
        have g25 := hfwz.1
        replace hfwz := hfwz.2
        have g26 := hfwz.1
        replace hfwz := hfwz.2
        have g27 := hfwz.1
        replace hfwz := hfwz.2
        have g28 := hfwz.1
        replace hfwz := hfwz.2
        have g29 := hfwz.1
        replace hfwz := hfwz.2
        have g30 := hfwz.1
        replace hfwz := hfwz.2
        have g31 := hfwz.1
        replace hfwz := hfwz.2
        have g32 := hfwz.1
        replace hfwz := hfwz.2
        have g33 := hfwz.1
        replace hfwz := hfwz.2
        have g34 := hfwz.1
        replace hfwz := hfwz.2
        have g35 := hfwz.1
        replace hfwz := hfwz.2
        have g36 := hfwz.1
        replace hfwz := hfwz.2
        have g37 := hfwz.1
        replace hfwz := hfwz.2
        have g38 := hfwz.1
        replace hfwz := hfwz.2
        have g39 := hfwz.1
        replace hfwz := hfwz.2
        have g40 := hfwz.1
        replace hfwz := hfwz.2
        have g41 := hfwz.1
        replace hfwz := hfwz.2
        have g42 := hfwz.1
        replace hfwz := hfwz.2
        have g43 := hfwz.1
        replace hfwz := hfwz.2
        have g44 := hfwz.1
        replace hfwz := hfwz.2
        clear hfwz
        replace g0 : vals 0 = _ := g0
        replace g1 : vals 1 = _ := g1
        replace g2 : vals 2 = _ := g2
        replace g3 : vals 3 = _ := g3
        replace g4 : vals 4 = _ := g4
        replace g5 : vals 5 = _ := g5
        replace g6 : vals 6 = _ := g6
        replace g7 : vals 7 = _ := g7
        replace g8 : vals 8 = _ := g8
        replace g9 : vals 9 = _ := g9
        replace g10 : vals 10 = _ := g10
        replace g11 : vals 11 = _ := g11
        replace g12 : vals 12 = _ := g12
        replace g13 : vals 13 = _ := g13
        replace g14 : vals 14 = _ := g14
        replace g15 : vals 15 = _ := g15
        replace g16 : vals 16 = _ := g16
        replace g17 : vals 17 = _ := g17
        replace g18 : vals 18 = _ := g18
        replace g19 : vals 19 = _ := g19
        replace g20 : vals 20 = _ := g20
        replace g21 : vals 21 = _ := g21
        replace g22 : vals 22 = _ := g22
        replace g23 : vals 23 = _ := g23
        replace g25 : vals 25 = _ := g25
        replace g26 : vals 26 = _ := g26
        replace g27 : vals 27 = _ := g27
        replace g28 : vals 28 = _ := g28
        replace g29 : vals 29 = _ := g29
        replace g30 : vals 30 = _ := g30
        replace g32 : vals 32 = _ := g32
        replace g33 : vals 33 = _ := g33
        replace g34 : vals 34 = _ := g34
        replace g35 : vals 35 = _ := g35
        replace g36 : vals 36 = _ := g36
        replace g38 : vals 38 = _ := g38
        replace g39 : vals 39 = _ := g39
        replace g40 : vals 40 = _ := g40
        replace g41 : vals 41 = _ := g41
        replace g42 : vals 42 = _ := g42
        replace g43 : vals 43 = _ := g43
        replace g44 : vals 44 = _ := g44
        simp only [canonP, Act.put, List.setIfInBounds_toArray, List.set_cons_succ, List.set_cons_zero, g0, g1, g2, g3, g4, g5, g6, g7, g8, g9, g10, g11, g12, g13, g14, g15, g16, g17, g18, g19, g20, g21, g22, g23, g25, g26, g27, g28, g29, g30, g32, g33, g34, g35, g36, g38, g39, g40, g41, g42, g43, g44]
        clear g0 g1 g2 g3 g4 g5 g6 g7 g8 g9 g10 g11 g12 g13 g14 g15 g16 g17 g18 g19 g20 g21 g22 g23 g24 g25 g26 g27 g28 g29 g30 g31 g32 g33 g34 g35 g36 g37 g38 g39 g40 g41 g42 g43 g44
        have HGF := Lib.hid (HI5.out.grow.trans (((Touch.drew [] W5).trans hRwz (by simp)).below (Nat.le_refl _) (by simp)))
        clear hRwz
        go_wp2_with fail
        go_ret
        exact ⟨rfl, HGF.out⟩
#print axioms picks_walk
end Go.Proofs.Ytmfofobmceflmaa
