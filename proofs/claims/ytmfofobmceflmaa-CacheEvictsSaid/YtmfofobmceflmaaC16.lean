/- The law CacheEvicts: the walk. -/
import Derived.Test.YtmfofobmceflmaaC14
set_option linter.unusedVariables false
set_option linter.unusedSimpArgs false
namespace Go.Proofs.Ytmfofobmceflmaa
open Go.RowKit Go.Maps

theorem Tells.evF {N : Nat} {m : List Blk} {s : CS} (h : Tells N m s) (zs : List Int) (hz : ∀ z ∈ zs, isDirty s.f z = false) : Tells N m { s with f := evF s.f zs } :=
  { h with
    has := fun i y t hy => by
      have hy : Go.Proofs.Ytmfofobmceflmaa.evF s.f zs i = some (y, t) := hy
      unfold Go.Proofs.Ytmfofobmceflmaa.evF at hy
      by_cases e : (i : Int) ∈ zs
      · rw [if_pos e] at hy; cases hy
      · rw [if_neg e] at hy; exact h.has i y t hy
    disk := fun i hi hd => by
      have hd : isDirty (Go.Proofs.Ytmfofobmceflmaa.evF s.f zs) i = false := hd
      rw [isDirty_evF] at hd
      by_cases e : (i : Int) ∈ zs
      · exact h.disk i hi (hz _ e)
      · rw [if_neg e] at hd; exact h.disk i hi hd }
theorem selL_congr {N : Nat} {sel sel' : Int → Bool} (h : ∀ i, sel i = sel' i) : selL N sel = selL N sel' := by rw [show sel = sel' from funext h]
set_option maxRecDepth 100000 in
set_option maxHeartbeats 4000000 in
theorem evicts_walk (n : Int) (hn : IntOk n) {w : World} {v : Value} {l : List DP} (hp : DosIn w v l) (hl : l.length ≤ 9223372036854775807) :
    Calls Try.prog 5 #[.int .i64 n, v] w fun e w' => e = .returned (.bool true) ∧ Below w.heap.size w w' := by
  obtain ⟨ad, cap, rfl⟩ := hp.len
  by_cases h3 : 200 < l.length
  · generalize l.length = L at *
    clear hp
    have d0 : decide ((200 : Int) < (L : Int)) = true := by simp; omega
    go_enter Try.func5, Try.ntmps5
    go_wp2_with fail
    go_ret
    exact ⟨rfl, Below.refl _ _⟩
  · obtain ⟨N, hN⟩ : ∃ N : Nat, (N : Int) = 1 + n % 64 := ⟨(1 + n % 64).toNat, by omega⟩
    have h1 : 1 ≤ N := by omega
    have h2 : N ≤ 64 := by omega
    have HW := Lib.hid (ran_ok n hn N hN hp (by omega))
    obtain ⟨L, hL⟩ : ∃ L, L = l.length := ⟨_, rfl⟩
    rw [← hL] at h3 HW ⊢
    have d0 : decide ((200 : Int) < (L : Int)) = false := by simp; omega
    clear hn hN hp hL hl
    go_enter Try.func5, Try.ntmps5
    go_wp2_with fail
    refine HW.out.mono ?_
    intro e w1 hpost
    obtain ⟨C, B, gm, U, s, m, he, hr⟩ := hpost
    subst he
    have HI := Lib.hid hr
    have HDI := Lib.hid (by have := dirty_ok hr.cache; rw [hr.good.safe] at this; exact this)
    have HUL := Lib.hid hr.cache.lt
    clear hr HW
    go_wp2_with fail
    refine HDI.out.mono ?_
    intro e w2 hpost
    obtain ⟨v9, he, hr9, hg2, hlo9⟩ := hpost
    subst he
    obtain ⟨a9, c9, hv9⟩ := hr9.len
    have HI2 := Lib.hid (HI.out.later hg2)
    have HCI := Lib.hid (by have := clean_ok HI2.out.cache; rw [HI2.out.good.safe] at this; exact this)
    have HL9 := Lib.hid (selL_length N (isDirty s.f))
    have HM9 := Lib.hid (fun z (hz : z ∈ selL N (isDirty s.f)) => selL_mem.1 hz)
    have HMC := Lib.hid (fun z (hz : z ∈ selL N (isClean s.f s.p)) => clean_not_dirty (selL_mem.1 hz).2)
    have HEE := Lib.hid (fun w (h : IsCache w C B U L s) => evicted_ok h HI2.out.good h2)
    have HSD := Lib.hid (show selL N (isDirty (evF s.f (selL N (isClean s.f s.p)))) = selL N (isDirty s.f) from selL_congr (fun i => by
      rw [isDirty_evF]
      by_cases e : i ∈ selL N (isClean s.f s.p)
      · rw [if_pos e, HMC.out i e]
      · rw [if_neg e]))
    have HSC := Lib.hid (show selL N (isClean (evF s.f (selL N (isClean s.f s.p))) s.p) = [] by
      have := left_clean N s.f s.p (selL N (isClean s.f s.p)).length
      rw [List.take_length, List.drop_length] at this
      exact this)
    have HL10 := Lib.hid (selL_length N (isClean s.f s.p))
    unfold SelPost at HCI
    unfold EvictedPost at HEE
    obtain ⟨dl, hdl⟩ : ∃ dl, dl = selL N (isDirty s.f) := ⟨_, rfl⟩
    obtain ⟨cl, hcl⟩ : ∃ cl, cl = selL N (isClean s.f s.p) := ⟨_, rfl⟩
    rw [← hdl] at hr9 hv9 HL9 HM9 HSD
    rw [← hcl] at HCI HMC HEE HSD HSC HL10
    obtain ⟨n9, hn9⟩ : ∃ k, k = dl.length := ⟨_, rfl⟩
    obtain ⟨n10, hn10⟩ : ∃ k, k = cl.length := ⟨_, rfl⟩
    rw [← hn9] at hv9
    subst hv9
    have HN9 := Lib.hid hn9
    have HN10 := Lib.hid hn10
    have hb9 : n9 ≤ 64 := by have := HL9.out; omega
    have hb10 : n10 ≤ 64 := by have := HL10.out; omega
    have HR9 := Lib.hid hr9
    have HO9 := Lib.hid (show ∀ g, (Value.slice a9 n9 c9).ownBlock = some g → g ∉ U from fun g e hm => by have := hlo9 g e; have := HUL.out g hm; omega)
    have HG2 := Lib.hid hg2.size
    clear hr9 hg2 hlo9 HI HDI hdl hcl hn9 hn10
    go_wp2_with fail
    refine HCI.out.mono ?_
    intro e w3 hpost
    obtain ⟨v10, he, hr10, hg3, hlo10⟩ := hpost
    subst he
    obtain ⟨a10, c10, hv10⟩ := hr10.len
    rw [← HN10.out] at hv10
    subst hv10
    have HI3 := Lib.hid (HI2.out.later hg3)
    have HR93 := Lib.hid (HR9.out.grow hg3)
    have HR10 := Lib.hid hr10
    have HO10 := Lib.hid (show ∀ g, (Value.slice a10 n10 c10).ownBlock = some g → g ∉ U from fun g e hm => by have := hlo10 g e; have := HUL.out g hm; have := HG2.out; omega)
    clear hr10 hg3 hlo10 HI2 HCI HR9
    go_wp2_with fail
    refine (HEE.out _ HI3.out.cache).mono ?_
    intro e w4 hpost
    obtain ⟨v11, he, hr11, hst⟩ := hpost
    subst he
    obtain ⟨a11, c11, hv11⟩ := hr11.len
    rw [← HN10.out] at hv11
    subst hv11
    obtain ⟨U4, hc4, ht4, hu4⟩ := hst
    have HR94 := Lib.hid (show IRow w4 (.slice a9 n9 c9) dl from Row.kept HR93.out ht4 HO9.out)
    have HR104 := Lib.hid (show IRow w4 (.slice a10 n10 c10) cl from Row.kept HR10.out ht4 HO10.out)
    have HO94 := Lib.hid (show ∀ g, (Value.slice a9 n9 c9).ownBlock = some g → g ∉ U4 from fun g e hm => by
      rcases hu4 g hm with h | h
      · exact HO9.out g e h
      · have := Row.lt HR93.out e; omega)
    obtain ⟨U5, hI4, hUU⟩ : ∃ U5, RState N (L + 1) w C B gm U5 { s with f := evF s.f cl } m w4 ∧ ∀ g, (Value.slice a9 n9 c9).ownBlock = some g → g ∉ U5 := by
      obtain ⟨U5, h5⟩ := HI3.out.step (s' := { s with f := evF s.f cl }) ⟨U4, hc4.mono (Nat.le_succ L), ht4, hu4⟩ (HI3.out.good.put _) (HI3.out.tells.evF cl HMC.out) rfl
      refine ⟨U4, { h5 with cache := hc4.mono (Nat.le_succ L), out := ?_, lo := ?_ }, HO94.out⟩
      · intro hm
        have hgl : gm < w3.heap.size := HI3.out.row.lt rfl
        rcases hu4 gm hm with h | h
        · exact HI3.out.out h
        · omega
      · intro j hj
        rcases hu4 j hj with h | h
        · exact HI3.out.lo j h
        · exact Nat.le_trans HI3.out.grow.size h
    have HI4 := Lib.hid hI4
    have HO5 := Lib.hid hUU
    have HR11 := Lib.hid hr11
    have HCN := Lib.hid (by have := clean_ok HI4.out.cache; rw [HI4.out.good.safe] at this; exact this)
    unfold SelPost at HCN
    rw [show selL N (isClean ({ s with f := evF s.f cl } : CS).f ({ s with f := evF s.f cl } : CS).p) = [] from HSC.out] at HCN
    clear hr11 hc4 ht4 hu4 hI4 hUU HI3 HR93 HR10 HEE HO94
    go_wp2_with fail
    refine HCN.out.mono ?_
    intro e w5 hpost
    obtain ⟨v5, he, hr5, hg5, _⟩ := hpost
    subst he
    obtain ⟨a5, c5, hv5⟩ := hr5.len
    subst hv5
    have HI5 := Lib.hid (HI4.out.later hg5)
    have HR95 := Lib.hid (HR94.out.grow hg5)
    have HR105 := Lib.hid (HR104.out.grow hg5)
    have HR115 := Lib.hid (HR11.out.grow hg5)
    have HDN := Lib.hid (by have := dirty_ok HI5.out.cache; rw [HI5.out.good.safe] at this; exact this)
    unfold SelPost at HDN
    rw [show selL N (isDirty ({ s with f := evF s.f cl } : CS).f) = dl from HSD.out] at HDN
    clear hr5 hg5 HI4 HR94 HR104 HR11 HCN
    go_wp2_with fail
    refine HDN.out.mono ?_
    intro e w6 hpost
    obtain ⟨v6, he, hr6, hg6, _⟩ := hpost
    subst he
    have HR6 := Lib.hid hr6
    have HI6 := Lib.hid (HI5.out.later hg6)
    have HR96 := Lib.hid (HR95.out.grow hg6)
    have HR106 := Lib.hid (HR105.out.grow hg6)
    have HR116 := Lib.hid (HR115.out.grow hg6)
    clear hr6 hg6 HI5 HR95 HR105 HR115 HDN
    go_wp2_with fail
    refine (same_ints HR6.out HR96.out (by have := HN9.out; omega)).mono ?_
    intro e w7 hpost
    obtain ⟨he, hg7⟩ := hpost
    subst he
    have HI7 := Lib.hid (HI6.out.later hg7)
    have HR97 := Lib.hid (HR96.out.grow hg7)
    have HR107 := Lib.hid (HR106.out.grow hg7)
    have HR117 := Lib.hid (HR116.out.grow hg7)
    clear hg7 HI6 HR96 HR106 HR116 HR6
    go_wp2_with fail
    go_loopw [12] (fun t12 wr => ∃ i : Nat, i ≤ n10 ∧ t12 = .int .i64 (i : Int) ∧ Hid (Grow w7 wr)) (fun t12 _ => n10 - (intOf t12).toNat)
    case atStart => exact ⟨0, by omega, rfl, Lib.hid (Grow.refl _)⟩
    case round =>
      obtain ⟨i, hi, rfl, HGi⟩ := hrel
      by_cases hlt : i < n10
      · have hil : i < cl.length := by rw [← HN10.out]; exact hlt
        obtain ⟨z, hz⟩ : ∃ z, cl[i]? = some z := ⟨cl[i], by simp [hil]⟩
        obtain ⟨g10, cc10, hv⟩ := HR107.out.open_ (by omega)
        rw [← HN10.out] at hv
        cases hv
        have y0 := IRow.cell (HR107.out.grow HGi.out) hz
        have b0 : (0 : Int) ≤ (i : Int) := by omega
        have b1 : (i : Int) < (n10 : Int) := by omega
        have HZM := Lib.hid (show decide (z ∈ cl) = true from decide_eq_true (List.mem_of_getElem? hz))
        clear hz hil
        go_wp2_with fail
        refine (has_ok (HR117.out.grow HGi.out) (by have := HN10.out; omega) z).mono ?_
        intro e w8 hpost
        obtain ⟨he, hg8⟩ := hpost
        rw [HZM.out] at he
        subst he
        have HG8 := Lib.hid (HGi.out.trans hg8)
        clear hg8 y0
        go_wp2_with fail
        go_roundw
        case rel => exact ⟨i + 1, by omega, by go_num, HG8⟩
        case measure => simp [intOf]; omega
      · obtain rfl : n10 = i := by omega
        have HI8 := Lib.hid (HI7.out.later HGi.out)
        have HR98 := Lib.hid (HR97.out.grow HGi.out)
        clear HI7 HR97 HR107 HR117
        go_wp2_with fail
        go_loopw [13] (fun t13 wq => ∃ i : Nat, i ≤ n9 ∧ t13 = .int .i64 (i : Int) ∧ ∃ U1 s1, Hid (RState N (L + 1 + i) w C B gm U1 s1 m wq) ∧ Hid (IRow wq (.slice a9 n9 c9) dl) ∧ Hid (∀ g, (Value.slice a9 n9 c9).ownBlock = some g → g ∉ U1)) (fun t13 _ => n9 - (intOf t13).toNat)
        case atStart => exact ⟨0, by omega, rfl, U5, _, HI8, HR98, HO5⟩
        case round =>
          obtain ⟨i, hi, rfl, U1, s1, HI, HR, HO1⟩ := hrel
          by_cases hlt : i < n9
          · have hil : i < dl.length := by rw [← HN9.out]; exact hlt
            obtain ⟨z, hz⟩ : ∃ z, dl[i]? = some z := ⟨dl[i], by simp [hil]⟩
            have hzi := HM9.out z (List.mem_of_getElem? hz)
            obtain ⟨c, rfl⟩ : ∃ c : Nat, z = (c : Int) := ⟨z.toNat, by omega⟩
            have hcN : c < N := by omega
            obtain ⟨g9, cc9, hv⟩ := HR.out.open_ (by omega)
            rw [← HN9.out] at hv
            cases hv
            have y0 := IRow.cell HR.out hz
            have b0 : (0 : Int) ≤ (i : Int) := by omega
            have b1 : (i : Int) < (n9 : Int) := by omega
            have hcm : c < m.length := by rw [HI.out.tells.len]; exact hcN
            obtain ⟨x, hx⟩ : ∃ x, m[c]? = some x := ⟨m[c], by simp [hcm]⟩
            have HX := Lib.hid (HI.out.tells.all x (List.mem_of_getElem? hx))
            have HRD := Lib.hid (cread_any HI.out.cache (by omega) HI.out.good HI.out.tells c hcN hx)
            have HXM := Lib.hid (show (m.map bc)[c]? = some (bc x) by rw [List.getElem?_map, hx]; rfl)
            have HZ9 := Lib.hid hz
            have hz := zero32
            have hzs := zero_size
            have HSz := Lib.hid (bsize HX.out)
            have HSl := Lib.hid (show (Try.prog.info? 32).map (·.size) = some (bc x).length by rw [bc_length, HX.out]; exact size32)
            have HO := Lib.hid (show (bc x).toArray.all (·.oneCell') = true from all_oneCell_toArray (bc_one _))
            have HEQ := Lib.hid (equal32 x HX.out)
            generalize (bc zeroB).toArray = Z at *
            have HSo := Lib.hid (show Z.size = (bc x).toArray.size from hzs.trans (show 256 = (bc x).toArray.size by rw [List.size_toArray, bc_length, HX.out]))
            clear hcm hx hzs hil hzi
            go_wp2_with fail
            refine HRD.out.mono ?_
            intro e w4 hpost
            obtain ⟨he, s', hst, hsd, hsp, hte, _⟩ := hpost
            subst he
            obtain ⟨U2, hc2, ht2, hu2⟩ := hst
            have HR2 := Lib.hid (show IRow w4 (.slice (some ⟨g9, 0, none⟩) n9 c9) dl from Row.kept HR.out ht2 HO1.out)
            obtain ⟨U2', hI4, hO4⟩ : ∃ U2', RState N (L + 1 + (i + 1)) w C B gm U2' s' m w4 ∧ ∀ g, (Value.slice (some ⟨g9, 0, none⟩) n9 c9).ownBlock = some g → g ∉ U2' := by
              obtain ⟨U5, h5⟩ := HI.out.step ⟨U2, hc2, ht2, hu2⟩ ((HI.out.good.same hsd).more (Nat.le_succ _)) hte hsp
              refine ⟨U2, { h5 with cache := hc2, out := ?_, lo := ?_ }, ?_⟩
              · intro hm
                have hgl := HI.out.row.lt (g := gm) rfl
                rcases hu2 gm hm with h | h
                · exact HI.out.out h
                · omega
              · intro j hj
                rcases hu2 j hj with h | h
                · exact HI.out.lo j h
                · exact Nat.le_trans HI.out.grow.size h
              · intro g e hm
                rcases hu2 g hm with h | h
                · exact HO1.out g e h
                · have := Row.lt HR.out e; omega
            have HI4 := Lib.hid hI4
            have HO4 := Lib.hid hO4
            clear hc2 ht2 hu2 hsd hsp hte hI4 hO4 y0
            go_upto_region 19 with (refine wpList_store_row rfl 32 _ _ rfl w4.heap.size (bc x).toArray rfl rfl 32 Z (heap_alloc_last _ _) HSz.out HSo.out HO.out ?_)
            have hg5 : Grow w4 ((w4.alloc (.cells Z 32)).setRow w4.heap.size (bc x).toArray) := below_setRow ((Below.refl _ _).alloc (Nat.le_refl _) _) (Nat.le_refl _) _
            have HI5 := Lib.hid (HI4.out.later hg5)
            have HR5 := Lib.hid (HR2.out.grow hg5)
            have HCX := Lib.hid (show w4.heap.size < ((w4.alloc (.cells Z 32)).setRow w4.heap.size (bc x).toArray).heap.size ∧ ((w4.alloc (.cells Z 32)).setRow w4.heap.size (bc x).toArray).heap[w4.heap.size]? = some (.cells (bc x).toArray 32) from ⟨by simp, setRow_heap _ _ _ _ _ _ (heap_alloc_last _ _)⟩)
            clear hg5
            generalize (w4.alloc (.cells Z 32)).setRow w4.heap.size (bc x).toArray = W5 at *
            obtain ⟨BX, hBX⟩ : ∃ g, g = w4.heap.size := ⟨_, rfl⟩
            rw [← hBX] at HCX
            rw [← hBX]
            clear hBX
            have HRG := Lib.hid (HI5.out.row.range HXM.out)
            have HGL := Lib.hid (show gm < W5.heap.size from HI5.out.row.lt rfl)
            have HCI := Lib.hid (show g9 < W5.heap.size ∧ W5.cell? ⟨g9, i, none⟩ = some (.int .i64 (c : Int)) from ⟨Row.lt HR5.out rfl, IRow.cell HR5.out HZ9.out⟩)
            refine wp_region_facts (by kernel_rfl) [[], [(0, some 81)], [(1, some 82)], [(2, some 83)], [(2, some 83)], [(2, some 83)], [(2, some 83)], [(2, some 83), (5, some 86), (6, some 87)], [(2, some 83), (7, some 88)], [(2, some 83), (4, some 85), (8, some 89)], [(2, some 83), (9, some 90)], [(2, some 83), (3, some 84), (10, some 91)], [(2, some 83), (11, some 92)]] [(0, some 81), (1, some 82), (2, some 83), (3, some 84), (4, some 85), (5, some 86), (6, some 87), (7, some 88), (8, some 89), (9, some 90), (10, some 91), (11, some 92), (12, some 93)] (by kernel_rfl) (by kernel_rfl) (by kernel_rfl) (Touch []) (Touch.refl []) (fun _ _ _ h h' => h.trans h' (fun i hi => .inl hi)) [Is (Value.int .i64 0), Is (Value.bool false), Is (Value.bool false), Is (Value.agg (bc x).toArray), Is (Value.slice (some ⟨gm, 0, none⟩) N N), Is (Value.slice (some ⟨g9, 0, none⟩) n9 c9), Is (Value.int .i64 (i : Int)), Is (Value.pointer (some ⟨g9, i, none⟩)), Is (Value.int .i64 (c : Int)), Is (Value.pointer (some ⟨gm, c * 256, none⟩)), Is (Value.agg (bc x).toArray), Is (Value.bool false), Is (Value.bool false)] rfl ⟨is_stab _ _, is_stab _ _, is_stab _ _, is_stab _ _, is_stab _ _, is_stab _ _, is_stab _ _, is_stab _ _, is_stab _ _, is_stab _ _, is_stab _ _, is_stab _ _, is_stab _ _, trivial⟩ ⟨?o0, ?o1, ?o2, ?o3, ?o4, ?o5, ?o6, ?o7, ?o8, ?o9, ?o10, ?o11, ?o12, trivial⟩ ?_
            case o0 =>
              intro vals wq hRq hpq
              simp only [List.getD_cons_zero, List.getD_cons_succ, canonP]
              simp only [Oper.gives]
              go_simp
              exact ⟨is_mk _ _, (Touch.refl []) _⟩
            case o1 =>
              intro vals wq hRq hpq
              simp only [factsP, List.getD_cons_zero, List.getD_cons_succ] at hpq
              have f0 := hpq.1
              replace hpq := hpq.2
              clear hpq
              replace f0 : vals 0 = _ := f0
              simp only [List.getD_cons_zero, List.getD_cons_succ, canonP, f0]
              clear f0
              simp only [Oper.gives]
              go_simp
              exact ⟨is_mk _ _, (Touch.refl []) _⟩
            case o2 =>
              intro vals wq hRq hpq
              simp only [factsP, List.getD_cons_zero, List.getD_cons_succ] at hpq
              have f1 := hpq.1
              replace hpq := hpq.2
              clear hpq
              replace f1 : vals 1 = _ := f1
              simp only [List.getD_cons_zero, List.getD_cons_succ, canonP, f1]
              clear f1
              simp only [Oper.gives]
              go_simp
              exact ⟨is_mk _ _, (Touch.refl []) _⟩
            case o3 =>
              intro vals wq hRq hpq
              simp only [factsP, List.getD_cons_zero, List.getD_cons_succ] at hpq
              have f2 := hpq.1
              replace hpq := hpq.2
              clear hpq
              replace f2 : vals 2 = _ := f2
              simp only [List.getD_cons_zero, List.getD_cons_succ, canonP, f2]
              clear f2
              have hbx : wq.heap[BX]? = some (.cells (bc x).toArray 32) := (Touch.block ((Touch.drew [] _).trans hRq (by simp)) BX HCX.out.1 (by simp)).trans HCX.out.2
              rw [if_pos (by rfl)]
              exact gives_load_row 32 _ rfl BX rfl 32 (bc x).toArray (0, 0) _ hbx Try.underlying32 rfl HSz.out ⟨is_mk _ _, Touch.refl _ _⟩
            case o4 =>
              intro vals wq hRq hpq
              simp only [factsP, List.getD_cons_zero, List.getD_cons_succ] at hpq
              have f2 := hpq.1
              replace hpq := hpq.2
              clear hpq
              replace f2 : vals 2 = _ := f2
              simp only [List.getD_cons_zero, List.getD_cons_succ, canonP, f2]
              clear f2
              simp only [Oper.gives]
              go_simp
              exact ⟨is_mk _ _, (Touch.refl []) _⟩
            case o5 =>
              intro vals wq hRq hpq
              simp only [factsP, List.getD_cons_zero, List.getD_cons_succ] at hpq
              have f2 := hpq.1
              replace hpq := hpq.2
              clear hpq
              replace f2 : vals 2 = _ := f2
              simp only [List.getD_cons_zero, List.getD_cons_succ, canonP, f2]
              clear f2
              simp only [Oper.gives]
              go_simp
              exact ⟨is_mk _ _, (Touch.refl []) _⟩
            case o6 =>
              intro vals wq hRq hpq
              simp only [factsP, List.getD_cons_zero, List.getD_cons_succ] at hpq
              have f2 := hpq.1
              replace hpq := hpq.2
              clear hpq
              replace f2 : vals 2 = _ := f2
              simp only [List.getD_cons_zero, List.getD_cons_succ, canonP, f2]
              clear f2
              simp only [Oper.gives]
              go_simp
              exact ⟨is_mk _ _, (Touch.refl []) _⟩
            case o7 =>
              intro vals wq hRq hpq
              simp only [factsP, List.getD_cons_zero, List.getD_cons_succ] at hpq
              have f2 := hpq.1
              replace hpq := hpq.2
              have f5 := hpq.1
              replace hpq := hpq.2
              have f6 := hpq.1
              replace hpq := hpq.2
              clear hpq
              replace f2 : vals 2 = _ := f2
              replace f5 : vals 5 = _ := f5
              replace f6 : vals 6 = _ := f6
              simp only [List.getD_cons_zero, List.getD_cons_succ, canonP, f2, f5, f6]
              clear f2 f5 f6
              have hb0 : (0 : Int) ≤ (i : Int) := by omega
              have hb1 : (i : Int) < (n9 : Int) := by omega
              simp only [Oper.gives]
              go_simp
              exact ⟨is_mk _ _, Touch.refl _ _⟩
            case o8 =>
              intro vals wq hRq hpq
              simp only [factsP, List.getD_cons_zero, List.getD_cons_succ] at hpq
              have f2 := hpq.1
              replace hpq := hpq.2
              have f7 := hpq.1
              replace hpq := hpq.2
              clear hpq
              replace f2 : vals 2 = _ := f2
              replace f7 : vals 7 = _ := f7
              simp only [List.getD_cons_zero, List.getD_cons_succ, canonP, f2, f7]
              clear f2 f7
              have hcc : wq.cell? ⟨g9, i, none⟩ = some (.int .i64 (c : Int)) := (Touch.cell ((Touch.drew [] _).trans hRq (by simp)) HCI.out.1 (by simp)).trans HCI.out.2
              simp only [Oper.gives]
              go_simp
              exact ⟨is_mk _ _, Touch.refl _ _⟩
            case o9 =>
              intro vals wq hRq hpq
              simp only [factsP, List.getD_cons_zero, List.getD_cons_succ] at hpq
              have f2 := hpq.1
              replace hpq := hpq.2
              have f4 := hpq.1
              replace hpq := hpq.2
              have f8 := hpq.1
              replace hpq := hpq.2
              clear hpq
              replace f2 : vals 2 = _ := f2
              replace f4 : vals 4 = _ := f4
              replace f8 : vals 8 = _ := f8
              simp only [List.getD_cons_zero, List.getD_cons_succ, canonP, f2, f4, f8]
              clear f2 f4 f8
              have hb0 : (0 : Int) ≤ (c : Int) := by omega
              have hb1 : (c : Int) < (N : Int) := by omega
              simp only [Oper.gives]
              go_simp
              exact ⟨is_mk _ _, Touch.refl _ _⟩
            case o10 =>
              intro vals wq hRq hpq
              simp only [factsP, List.getD_cons_zero, List.getD_cons_succ] at hpq
              have f2 := hpq.1
              replace hpq := hpq.2
              have f9 := hpq.1
              replace hpq := hpq.2
              clear hpq
              replace f2 : vals 2 = _ := f2
              replace f9 : vals 9 = _ := f9
              simp only [List.getD_cons_zero, List.getD_cons_succ, canonP, f2, f9]
              clear f2 f9
              have hrr := range_touch HRG.out ((Touch.drew [] _).trans hRq (by simp)) HGL.out (by simp)
              rw [if_pos (by rfl)]
              exact gives_load_mid 32 _ rfl gm (c * 256) rfl (bc x) _ hrr Try.underlying32 rfl HSl.out ⟨is_mk _ _, Touch.refl _ _⟩
            case o11 =>
              intro vals wq hRq hpq
              simp only [factsP, List.getD_cons_zero, List.getD_cons_succ] at hpq
              have f2 := hpq.1
              replace hpq := hpq.2
              have f3 := hpq.1
              replace hpq := hpq.2
              have f10 := hpq.1
              replace hpq := hpq.2
              clear hpq
              replace f2 : vals 2 = _ := f2
              replace f3 : vals 3 = _ := f3
              replace f10 : vals 10 = _ := f10
              simp only [List.getD_cons_zero, List.getD_cons_succ, canonP, f2, f3, f10]
              clear f2 f3 f10
              have hq1 := HEQ.out
              have hgT := guardT
              simp only [Oper.gives]
              go_simp
              exact ⟨is_mk _ _, Touch.refl _ _⟩
            case o12 =>
              intro vals wq hRq hpq
              simp only [factsP, List.getD_cons_zero, List.getD_cons_succ] at hpq
              have f2 := hpq.1
              replace hpq := hpq.2
              have f11 := hpq.1
              replace hpq := hpq.2
              clear hpq
              replace f2 : vals 2 = _ := f2
              replace f11 : vals 11 = _ := f11
              simp only [List.getD_cons_zero, List.getD_cons_succ, canonP, f2, f11]
              clear f2 f11
              simp only [Oper.gives]
              go_simp
              exact ⟨is_mk _ _, (Touch.refl []) _⟩
            intro vals wz hRwz hfwz
            simp only [AllFacts] at hfwz
            have g0 := hfwz.1
            replace hfwz := hfwz.2
            have g1 := hfwz.1
            replace hfwz := hfwz.2
            have g2 := hfwz.1
            replace hfwz := hfwz.2
            have g3 := hfwz.1
            replace hfwz := hfwz.2
            have g4 := hfwz.1
            replace hfwz := hfwz.2
            have g5 := hfwz.1
            replace hfwz := hfwz.2
            have g6 := hfwz.1
            replace hfwz := hfwz.2
            have g7 := hfwz.1
            replace hfwz := hfwz.2
            have g8 := hfwz.1
            replace hfwz := hfwz.2
            have g9 := hfwz.1
            replace hfwz := hfwz.2
            have g10 := hfwz.1
            replace hfwz := hfwz.2
            have g11 := hfwz.1
            replace hfwz := hfwz.2
            have g12 := hfwz.1
            replace hfwz := hfwz.2
            clear hfwz
            replace g0 : vals 0 = _ := g0
            replace g1 : vals 1 = _ := g1
            replace g2 : vals 2 = _ := g2
            replace g3 : vals 3 = _ := g3
            replace g4 : vals 4 = _ := g4
            replace g5 : vals 5 = _ := g5
            replace g6 : vals 6 = _ := g6
            replace g7 : vals 7 = _ := g7
            replace g8 : vals 8 = _ := g8
            replace g9 : vals 9 = _ := g9
            replace g10 : vals 10 = _ := g10
            replace g11 : vals 11 = _ := g11
            replace g12 : vals 12 = _ := g12
            simp only [canonP, Act.put, List.setIfInBounds_toArray, List.set_cons_succ, List.set_cons_zero, g0, g1, g2, g3, g4, g5, g6, g7, g8, g9, g10, g11, g12]
            clear g0 g1 g2 g3 g4 g5 g6 g7 g8 g9 g10 g11 g12
            have hg6 : Grow W5 wz := ((Touch.drew [] W5).trans hRwz (by simp)).below (Nat.le_refl _) (by simp)
            have HI6 := Lib.hid (HI5.out.later hg6)
            have HR6 := Lib.hid (HR5.out.grow hg6)
            clear hRwz hg6
            go_wp2_with fail
            go_roundw
            case rel => exact ⟨i + 1, by omega, by go_num, _, _, HI6, HR6, HO4⟩
            case measure => simp [intOf]; omega
          · obtain rfl : n9 = i := by omega
            go_wp2_with fail
            go_ret
            exact ⟨rfl, HI.out.grow⟩
#print axioms evicts_walk
end Go.Proofs.Ytmfofobmceflmaa
