/- The law CacheLists: the walk. -/
import Derived.Test.YtmfofobmceflmaaC11
set_option linter.unusedVariables false
set_option linter.unusedSimpArgs false
namespace Go.Proofs.Ytmfofobmceflmaa
open Go.RowKit Go.Maps

theorem sel_in (N : Nat) (sel : Int → Bool) (c : Nat) (hc : c < N) : decide ((c : Int) ∈ selL N sel) = sel c := by
  cases h : sel c
  · exact decide_eq_false (fun hm => by rw [(selL_mem.1 hm).2] at h; cases h)
  · exact decide_eq_true (selL_mem.2 ⟨by omega, h⟩)
theorem dirty_clean {f : Int → Option Hd} {p : Int → Bool} {i : Int} (h : isDirty f i = true) : isClean f p i = false := by
  cases e : isClean f p i
  · rfl
  · rw [clean_not_dirty e] at h; cases h
set_option maxRecDepth 100000 in
set_option maxHeartbeats 4000000 in
theorem lists_walk (n : Int) (hn : IntOk n) {w : World} {v : Value} {l : List DP} (hp : DosIn w v l) (hl : l.length ≤ 9223372036854775807) :
    Calls Try.prog 3 #[.int .i64 n, v] w fun e w' => e = .returned (.bool true) ∧ Below w.heap.size w w' := by
  obtain ⟨ad, cap, rfl⟩ := hp.len
  by_cases h3 : 200 < l.length
  · generalize l.length = L at *
    clear hp
    have d0 : decide ((200 : Int) < (L : Int)) = true := by simp; omega
    go_enter Try.func3, Try.ntmps3
    go_wp2_with fail
    go_ret
    exact ⟨rfl, Below.refl _ _⟩
  · obtain ⟨N, hN⟩ : ∃ N : Nat, (N : Int) = 1 + n % 64 := ⟨(1 + n % 64).toNat, by omega⟩
    have h1 : 1 ≤ N := by omega
    have h2 : N ≤ 64 := by omega
    have HW := Lib.hid (ran_ok n hn N hN hp (by omega))
    obtain ⟨L, hL⟩ : ∃ L, L = l.length := ⟨_, rfl⟩
    rw [← hL] at h3 HW ⊢
    have d0 : decide ((200 : Int) < (L : Int)) = false := by simp; omega
    clear hn hN hp hL hl
    go_enter Try.func3, Try.ntmps3
    go_wp2_with fail
    refine HW.out.mono ?_
    intro e w1 hpost
    obtain ⟨C, B, gm, U, s, m, he, hr⟩ := hpost
    subst he
    have HI := Lib.hid hr
    have HDI := Lib.hid (by have := dirty_ok hr.cache; rw [hr.good.safe] at this; exact this)
    clear hr HW
    go_wp2_with fail
    refine HDI.out.mono ?_
    intro e w2 hpost
    obtain ⟨v9, he, hr9, hg2, _⟩ := hpost
    subst he
    obtain ⟨a9, c9, hv9⟩ := hr9.len
    have HI2 := Lib.hid (HI.out.later hg2)
    have HCI := Lib.hid (by have := clean_ok HI2.out.cache; rw [HI2.out.good.safe] at this; exact this)
    have HL9 := Lib.hid (selL_length N (isDirty s.f))
    obtain ⟨n9, hn9⟩ : ∃ k, k = (selL N (isDirty s.f)).length := ⟨_, rfl⟩
    rw [← hn9] at hv9
    subst hv9
    have HR9 := Lib.hid hr9
    clear hr9 hg2 HI HDI hn9
    go_wp2_with fail
    refine HCI.out.mono ?_
    intro e w3 hpost
    obtain ⟨v10, he, hr10, hg3, _⟩ := hpost
    subst he
    obtain ⟨a10, c10, hv10⟩ := hr10.len
    have HI3 := Lib.hid (HI2.out.later hg3)
    have HR93 := Lib.hid (HR9.out.grow hg3)
    have HL10 := Lib.hid (selL_length N (isClean s.f s.p))
    obtain ⟨n10, hn10⟩ : ∃ k, k = (selL N (isClean s.f s.p)).length := ⟨_, rfl⟩
    rw [← hn10] at hv10
    subst hv10
    have HR10 := Lib.hid hr10
    clear hr10 hg3 HI2 HCI HR9 hn10
    go_wp2_with fail
    refine (rises_ok HR93.out (by have := HL9.out; omega) (by omega) (fun z hz => (selL_mem.1 hz).1) (selL_lt _ _)).mono ?_
    intro e w4 hpost
    obtain ⟨he, hg4⟩ := hpost
    subst he
    have HI4 := Lib.hid (HI3.out.later hg4)
    have HD4 := Lib.hid (HR93.out.grow hg4)
    have HE4 := Lib.hid (HR10.out.grow hg4)
    clear hg4 HI3 HR93 HR10
    go_wp2_with fail
    refine (rises_ok HE4.out (by have := HL10.out; omega) (by omega) (fun z hz => (selL_mem.1 hz).1) (selL_lt _ _)).mono ?_
    intro e w5 hpost
    obtain ⟨he, hg5⟩ := hpost
    subst he
    have HI5 := Lib.hid (HI4.out.later hg5)
    have HD5 := Lib.hid (HD4.out.grow hg5)
    have HE5 := Lib.hid (HE4.out.grow hg5)
    clear hg5 HI4 HD4 HE4
    go_wp2_with fail
    go_loopw [11] (fun t11 wr => ∃ c : Nat, c ≤ N ∧ t11 = .int .i64 (c : Int) ∧ Hid (RState N L w C B gm U s m wr) ∧ Hid (Grow w5 wr)) (fun t11 _ => N - (intOf t11).toNat)
    case atStart => exact ⟨0, by omega, rfl, HI5, Lib.hid (Grow.refl _)⟩
    case round =>
      clear HI5
      obtain ⟨c, hcN, rfl, HI, HGr⟩ := hrel
      by_cases hlt : c < N
      · obtain ⟨S, hdk, _⟩ := HI.out.cache.disk
        have hll := HI.out.lens
        obtain ⟨x, hx⟩ : ∃ x, s.d.last[c]? = some x := ⟨s.d.last[c]'(by omega), by simp⟩
        have hxe : s.d.last[c]'(by omega) = x := (List.getElem?_eq_some_iff.1 hx).2
        have HX := Lib.hid (HI.out.cache.facts.2.2.2.1 x (List.mem_of_getElem? hx))
        have HRD := Lib.hid (by have := read_ok hdk c (by omega) HI.out.good.dead; rw [hxe] at this; exact this)
        have HMX := Lib.hid (fun (hf : isDirty s.f c = false) => (HI.out.tells.disk c hlt hf).symm.trans hx)
        have hz := zero32
        have hzs := zero_size
        have HSz := Lib.hid (bsize HX.out)
        have HSl := Lib.hid (show (Try.prog.info? 32).map (·.size) = some (bc x).length by rw [bc_length, HX.out]; exact size32)
        have HO := Lib.hid (show (bc x).toArray.all (·.oneCell') = true from all_oneCell_toArray (bc_one _))
        have HEQ := Lib.hid (equal32 x HX.out)
        generalize (bc zeroB).toArray = Z at *
        have HSo := Lib.hid (show Z.size = (bc x).toArray.size from hzs.trans (show 256 = (bc x).toArray.size by rw [List.size_toArray, bc_length, HX.out]))
        clear hdk hll hx hxe hzs
        go_wp2_with fail
        refine HRD.out.mono ?_
        intro e w6 hpost
        obtain ⟨he, hg6⟩ := hpost
        subst he
        have HI6 := Lib.hid (HI.out.later hg6)
        have HG6 := Lib.hid (HGr.out.trans hg6)
        clear hg6
        go_upto_region 13 with (refine wpList_store_row rfl 32 _ _ rfl w6.heap.size (bc x).toArray rfl rfl 32 Z (heap_alloc_last _ _) HSz.out HSo.out HO.out ?_)
        have hg7 : Grow w6 ((w6.alloc (.cells Z 32)).setRow w6.heap.size (bc x).toArray) := below_setRow ((Below.refl _ _).alloc (Nat.le_refl _) _) (Nat.le_refl _) _
        have HI5 := Lib.hid (HI6.out.later hg7)
        have HG5 := Lib.hid (HG6.out.trans hg7)
        have HCX := Lib.hid (show w6.heap.size < ((w6.alloc (.cells Z 32)).setRow w6.heap.size (bc x).toArray).heap.size ∧ ((w6.alloc (.cells Z 32)).setRow w6.heap.size (bc x).toArray).heap[w6.heap.size]? = some (.cells (bc x).toArray 32) from ⟨by simp, setRow_heap _ _ _ _ _ _ (heap_alloc_last _ _)⟩)
        clear hg7
        generalize (w6.alloc (.cells Z 32)).setRow w6.heap.size (bc x).toArray = W5 at *
        obtain ⟨BX, hBX⟩ : ∃ g, g = w6.heap.size := ⟨_, rfl⟩
        rw [← hBX] at HCX
        rw [← hBX]
        clear hBX HI6 HG6 HRD
        have HGL := Lib.hid (show gm < W5.heap.size from HI5.out.row.lt rfl)
        cases hdt : isDirty s.f c with
        | true =>
          have HHD := Lib.hid (fun wq (hq : Touch [] W5 wq) => by have := has_ok ((HD5.out.grow HG5.out).grow (hq.below (Nat.le_refl _) (by simp))) (by have := HL9.out; omega) (c : Int); rw [sel_in N _ c hlt, hdt] at this; exact this)
          have HHC := Lib.hid (fun wq (hq : Touch [] W5 wq) => by have := has_ok ((HE5.out.grow HG5.out).grow (hq.below (Nat.le_refl _) (by simp))) (by have := HL10.out; omega) (c : Int); rw [sel_in N _ c hlt, dirty_clean hdt] at this; exact this)
          clear hdt
          refine wp_region_facts (by kernel_rfl) [[], [(0, some 55)], [(1, some 56)], [(2, some 57)], [(2, some 57)], [(2, some 57), (3, some 58), (4, some 59)], [(2, some 57), (5, some 60)], [(6, some 61)], [(6, some 61)], [(6, some 61), (7, some 62), (8, some 63)], [(2, some 57), (6, some 61), (9, some 64)], [(2, some 57), (10, some 65)], [(9, some 64), (11, some 66)], [(12, some 67)], [(12, some 67)], [(12, some 67), (13, some 68), (14, some 69)], [(12, some 67), (15, some 70)], [(12, some 67), (15, some 70), (16, some 71)], [(17, some 72)], [(17, some 72)], [(17, some 72)], [(17, some 72), (19, some 74), (20, some 75)], [(17, some 72), (21, some 76)], [(17, some 72), (18, some 73), (22, some 77)], [(12, some 67), (17, some 72), (23, some 78)], [(12, some 67), (24, some 79)]] [(0, some 55), (1, some 56), (2, some 57), (3, some 58), (4, some 59), (5, some 60), (6, some 61), (7, some 62), (8, some 63), (9, some 64), (10, some 65), (11, some 66), (12, some 67), (13, some 68), (14, some 69), (15, some 70), (16, some 71), (17, some 72), (18, some 73), (19, some 74), (20, some 75), (21, some 76), (22, some 77), (23, some 78), (24, some 79), (25, some 80)] (by kernel_rfl) (by kernel_rfl) (by kernel_rfl) (Touch []) (Touch.refl []) (fun _ _ _ h h' => h.trans h' (fun i hi => .inl hi)) [Is (Value.int .i64 0), Is (Value.bool false), Is (Value.bool false), Is (Value.slice a9 n9 c9), Is (Value.int .i64 (c : Int)), Is (Value.bool true), Is (Value.bool true), Is (Value.slice a10 n10 c10), Is (Value.int .i64 (c : Int)), Is (Value.bool false), Is (Value.bool false), Is (Value.bool false), Is (Value.bool false), Is (Value.slice a9 n9 c9), Is (Value.int .i64 (c : Int)), Is (Value.bool true), Is (Value.bool false), Is (Value.bool false), Is (undef), Is (undef), Is (undef), Is (undef), Is (undef), Is (undef), Is (Value.bool false), Is (Value.bool false)] rfl ⟨is_stab _ _, is_stab _ _, is_stab _ _, is_stab _ _, is_stab _ _, is_stab _ _, is_stab _ _, is_stab _ _, is_stab _ _, is_stab _ _, is_stab _ _, is_stab _ _, is_stab _ _, is_stab _ _, is_stab _ _, is_stab _ _, is_stab _ _, is_stab _ _, is_stab _ _, is_stab _ _, is_stab _ _, is_stab _ _, is_stab _ _, is_stab _ _, is_stab _ _, is_stab _ _, trivial⟩ ⟨?o0, ?o1, ?o2, ?o3, ?o4, ?o5, ?o6, ?o7, ?o8, ?o9, ?o10, ?o11, ?o12, ?o13, ?o14, ?o15, ?o16, ?o17, ?o18, ?o19, ?o20, ?o21, ?o22, ?o23, ?o24, ?o25, trivial⟩ ?_
          case o0 =>
            intro vals wq hRq hpq
            simp only [List.getD_cons_zero, List.getD_cons_succ, canonP]
            simp only [Oper.gives]
            go_simp
            exact ⟨is_mk _ _, (Touch.refl []) _⟩
          case o1 =>
            intro vals wq hRq hpq
            simp only [factsP, List.getD_cons_zero, List.getD_cons_succ] at hpq
            have f0 := hpq.1
            replace hpq := hpq.2
            clear hpq
            replace f0 : vals 0 = _ := f0
            simp only [List.getD_cons_zero, List.getD_cons_succ, canonP, f0]
            clear f0
            simp only [Oper.gives]
            go_simp
            exact ⟨is_mk _ _, (Touch.refl []) _⟩
          case o2 =>
            intro vals wq hRq hpq
            simp only [factsP, List.getD_cons_zero, List.getD_cons_succ] at hpq
            have f1 := hpq.1
            replace hpq := hpq.2
            clear hpq
            replace f1 : vals 1 = _ := f1
            simp only [List.getD_cons_zero, List.getD_cons_succ, canonP, f1]
            clear f1
            simp only [Oper.gives]
            go_simp
            exact ⟨is_mk _ _, (Touch.refl []) _⟩
          case o3 =>
            intro vals wq hRq hpq
            simp only [factsP, List.getD_cons_zero, List.getD_cons_succ] at hpq
            have f2 := hpq.1
            replace hpq := hpq.2
            clear hpq
            replace f2 : vals 2 = _ := f2
            simp only [List.getD_cons_zero, List.getD_cons_succ, canonP, f2]
            clear f2
            simp only [Oper.gives]
            go_simp
            exact ⟨is_mk _ _, (Touch.refl []) _⟩
          case o4 =>
            intro vals wq hRq hpq
            simp only [factsP, List.getD_cons_zero, List.getD_cons_succ] at hpq
            have f2 := hpq.1
            replace hpq := hpq.2
            clear hpq
            replace f2 : vals 2 = _ := f2
            simp only [List.getD_cons_zero, List.getD_cons_succ, canonP, f2]
            clear f2
            simp only [Oper.gives]
            go_simp
            exact ⟨is_mk _ _, (Touch.refl []) _⟩
          case o5 =>
            intro vals wq hRq hpq
            simp only [factsP, List.getD_cons_zero, List.getD_cons_succ] at hpq
            have f2 := hpq.1
            replace hpq := hpq.2
            have f3 := hpq.1
            replace hpq := hpq.2
            have f4 := hpq.1
            replace hpq := hpq.2
            clear hpq
            replace f2 : vals 2 = _ := f2
            replace f3 : vals 3 = _ := f3
            replace f4 : vals 4 = _ := f4
            simp only [List.getD_cons_zero, List.getD_cons_succ, canonP, f2, f3, f4]
            clear f2 f3 f4
            simp only [Oper.gives]
            go_simp
            exact (HHD.out wq ((Touch.drew [] _).trans hRq (by simp))).mono fun e w' ⟨he, hg⟩ => ⟨_, he, is_mk _ _, Touch.of_below hg⟩
          case o6 =>
            intro vals wq hRq hpq
            simp only [factsP, List.getD_cons_zero, List.getD_cons_succ] at hpq
            have f2 := hpq.1
            replace hpq := hpq.2
            have f5 := hpq.1
            replace hpq := hpq.2
            clear hpq
            replace f2 : vals 2 = _ := f2
            replace f5 : vals 5 = _ := f5
            simp only [List.getD_cons_zero, List.getD_cons_succ, canonP, f2, f5]
            clear f2 f5
            simp only [Oper.gives]
            go_simp
            exact ⟨is_mk _ _, (Touch.refl []) _⟩
          case o7 =>
            intro vals wq hRq hpq
            simp only [factsP, List.getD_cons_zero, List.getD_cons_succ] at hpq
            have f6 := hpq.1
            replace hpq := hpq.2
            clear hpq
            replace f6 : vals 6 = _ := f6
            simp only [List.getD_cons_zero, List.getD_cons_succ, canonP, f6]
            clear f6
            simp only [Oper.gives]
            go_simp
            exact ⟨is_mk _ _, (Touch.refl []) _⟩
          case o8 =>
            intro vals wq hRq hpq
            simp only [factsP, List.getD_cons_zero, List.getD_cons_succ] at hpq
            have f6 := hpq.1
            replace hpq := hpq.2
            clear hpq
            replace f6 : vals 6 = _ := f6
            simp only [List.getD_cons_zero, List.getD_cons_succ, canonP, f6]
            clear f6
            simp only [Oper.gives]
            go_simp
            exact ⟨is_mk _ _, (Touch.refl []) _⟩
          case o9 =>
            intro vals wq hRq hpq
            simp only [factsP, List.getD_cons_zero, List.getD_cons_succ] at hpq
            have f6 := hpq.1
            replace hpq := hpq.2
            have f7 := hpq.1
            replace hpq := hpq.2
            have f8 := hpq.1
            replace hpq := hpq.2
            clear hpq
            replace f6 : vals 6 = _ := f6
            replace f7 : vals 7 = _ := f7
            replace f8 : vals 8 = _ := f8
            simp only [List.getD_cons_zero, List.getD_cons_succ, canonP, f6, f7, f8]
            clear f6 f7 f8
            simp only [Oper.gives]
            go_simp
            exact (HHC.out wq ((Touch.drew [] _).trans hRq (by simp))).mono fun e w' ⟨he, hg⟩ => ⟨_, he, is_mk _ _, Touch.of_below hg⟩
          case o10 =>
            intro vals wq hRq hpq
            simp only [factsP, List.getD_cons_zero, List.getD_cons_succ] at hpq
            have f2 := hpq.1
            replace hpq := hpq.2
            have f6 := hpq.1
            replace hpq := hpq.2
            have f9 := hpq.1
            replace hpq := hpq.2
            clear hpq
            replace f2 : vals 2 = _ := f2
            replace f6 : vals 6 = _ := f6
            replace f9 : vals 9 = _ := f9
            simp only [List.getD_cons_zero, List.getD_cons_succ, canonP, f2, f6, f9]
            clear f2 f6 f9
            simp only [Oper.gives]
            go_simp
            exact ⟨is_mk _ _, (Touch.refl []) _⟩
          case o11 =>
            intro vals wq hRq hpq
            simp only [factsP, List.getD_cons_zero, List.getD_cons_succ] at hpq
            have f2 := hpq.1
            replace hpq := hpq.2
            have f10 := hpq.1
            replace hpq := hpq.2
            clear hpq
            replace f2 : vals 2 = _ := f2
            replace f10 : vals 10 = _ := f10
            simp only [List.getD_cons_zero, List.getD_cons_succ, canonP, f2, f10]
            clear f2 f10
            simp only [Oper.gives]
            go_simp
            exact ⟨is_mk _ _, (Touch.refl []) _⟩
          case o12 =>
            intro vals wq hRq hpq
            simp only [factsP, List.getD_cons_zero, List.getD_cons_succ] at hpq
            have f9 := hpq.1
            replace hpq := hpq.2
            have f11 := hpq.1
            replace hpq := hpq.2
            clear hpq
            replace f9 : vals 9 = _ := f9
            replace f11 : vals 11 = _ := f11
            simp only [List.getD_cons_zero, List.getD_cons_succ, canonP, f9, f11]
            clear f9 f11
            simp only [Oper.gives]
            go_simp
            exact ⟨is_mk _ _, (Touch.refl []) _⟩
          case o13 =>
            intro vals wq hRq hpq
            simp only [factsP, List.getD_cons_zero, List.getD_cons_succ] at hpq
            have f12 := hpq.1
            replace hpq := hpq.2
            clear hpq
            replace f12 : vals 12 = _ := f12
            simp only [List.getD_cons_zero, List.getD_cons_succ, canonP, f12]
            clear f12
            simp only [Oper.gives]
            go_simp
            exact ⟨is_mk _ _, (Touch.refl []) _⟩
          case o14 =>
            intro vals wq hRq hpq
            simp only [factsP, List.getD_cons_zero, List.getD_cons_succ] at hpq
            have f12 := hpq.1
            replace hpq := hpq.2
            clear hpq
            replace f12 : vals 12 = _ := f12
            simp only [List.getD_cons_zero, List.getD_cons_succ, canonP, f12]
            clear f12
            simp only [Oper.gives]
            go_simp
            exact ⟨is_mk _ _, (Touch.refl []) _⟩
          case o15 =>
            intro vals wq hRq hpq
            simp only [factsP, List.getD_cons_zero, List.getD_cons_succ] at hpq
            have f12 := hpq.1
            replace hpq := hpq.2
            have f13 := hpq.1
            replace hpq := hpq.2
            have f14 := hpq.1
            replace hpq := hpq.2
            clear hpq
            replace f12 : vals 12 = _ := f12
            replace f13 : vals 13 = _ := f13
            replace f14 : vals 14 = _ := f14
            simp only [List.getD_cons_zero, List.getD_cons_succ, canonP, f12, f13, f14]
            clear f12 f13 f14
            simp only [Oper.gives]
            go_simp
            exact (HHD.out wq ((Touch.drew [] _).trans hRq (by simp))).mono fun e w' ⟨he, hg⟩ => ⟨_, he, is_mk _ _, Touch.of_below hg⟩
          case o16 =>
            intro vals wq hRq hpq
            simp only [factsP, List.getD_cons_zero, List.getD_cons_succ] at hpq
            have f12 := hpq.1
            replace hpq := hpq.2
            have f15 := hpq.1
            replace hpq := hpq.2
            clear hpq
            replace f12 : vals 12 = _ := f12
            replace f15 : vals 15 = _ := f15
            simp only [List.getD_cons_zero, List.getD_cons_succ, canonP, f12, f15]
            clear f12 f15
            simp only [Oper.gives]
            go_simp
            exact ⟨is_mk _ _, (Touch.refl []) _⟩
          case o17 =>
            intro vals wq hRq hpq
            simp only [factsP, List.getD_cons_zero, List.getD_cons_succ] at hpq
            have f12 := hpq.1
            replace hpq := hpq.2
            have f15 := hpq.1
            replace hpq := hpq.2
            have f16 := hpq.1
            replace hpq := hpq.2
            clear hpq
            replace f12 : vals 12 = _ := f12
            replace f15 : vals 15 = _ := f15
            replace f16 : vals 16 = _ := f16
            simp only [List.getD_cons_zero, List.getD_cons_succ, canonP, f12, f15, f16]
            clear f12 f15 f16
            simp only [Oper.gives]
            go_simp
            exact ⟨is_mk _ _, (Touch.refl []) _⟩
          case o18 =>
            intro vals wq hRq hpq
            simp only [factsP, List.getD_cons_zero, List.getD_cons_succ] at hpq
            have f17 := hpq.1
            replace hpq := hpq.2
            clear hpq
            replace f17 : vals 17 = _ := f17
            simp only [List.getD_cons_zero, List.getD_cons_succ, canonP, f17]
            clear f17
            simp only [Oper.gives]
            go_simp
            exact is_mk _ _
          case o19 =>
            intro vals wq hRq hpq
            simp only [factsP, List.getD_cons_zero, List.getD_cons_succ] at hpq
            have f17 := hpq.1
            replace hpq := hpq.2
            clear hpq
            replace f17 : vals 17 = _ := f17
            simp only [List.getD_cons_zero, List.getD_cons_succ, canonP, f17]
            clear f17
            simp only [Oper.gives]
            go_simp
            exact is_mk _ _
          case o20 =>
            intro vals wq hRq hpq
            simp only [factsP, List.getD_cons_zero, List.getD_cons_succ] at hpq
            have f17 := hpq.1
            replace hpq := hpq.2
            clear hpq
            replace f17 : vals 17 = _ := f17
            simp only [List.getD_cons_zero, List.getD_cons_succ, canonP, f17]
            clear f17
            simp only [Oper.gives]
            go_simp
            exact is_mk _ _
          case o21 =>
            intro vals wq hRq hpq
            simp only [factsP, List.getD_cons_zero, List.getD_cons_succ] at hpq
            have f17 := hpq.1
            replace hpq := hpq.2
            have f19 := hpq.1
            replace hpq := hpq.2
            have f20 := hpq.1
            replace hpq := hpq.2
            clear hpq
            replace f17 : vals 17 = _ := f17
            replace f19 : vals 19 = _ := f19
            replace f20 : vals 20 = _ := f20
            simp only [List.getD_cons_zero, List.getD_cons_succ, canonP, f17, f19, f20]
            clear f17 f19 f20
            simp only [Oper.gives]
            go_simp
            exact is_mk _ _
          case o22 =>
            intro vals wq hRq hpq
            simp only [factsP, List.getD_cons_zero, List.getD_cons_succ] at hpq
            have f17 := hpq.1
            replace hpq := hpq.2
            have f21 := hpq.1
            replace hpq := hpq.2
            clear hpq
            replace f17 : vals 17 = _ := f17
            replace f21 : vals 21 = _ := f21
            simp only [List.getD_cons_zero, List.getD_cons_succ, canonP, f17, f21]
            clear f17 f21
            simp only [Oper.gives]
            go_simp
            exact is_mk _ _
          case o23 =>
            intro vals wq hRq hpq
            simp only [factsP, List.getD_cons_zero, List.getD_cons_succ] at hpq
            have f17 := hpq.1
            replace hpq := hpq.2
            have f18 := hpq.1
            replace hpq := hpq.2
            have f22 := hpq.1
            replace hpq := hpq.2
            clear hpq
            replace f17 : vals 17 = _ := f17
            replace f18 : vals 18 = _ := f18
            replace f22 : vals 22 = _ := f22
            simp only [List.getD_cons_zero, List.getD_cons_succ, canonP, f17, f18, f22]
            clear f17 f18 f22
            simp only [Oper.gives]
            go_simp
            exact is_mk _ _
          case o24 =>
            intro vals wq hRq hpq
            simp only [factsP, List.getD_cons_zero, List.getD_cons_succ] at hpq
            have f12 := hpq.1
            replace hpq := hpq.2
            have f17 := hpq.1
            replace hpq := hpq.2
            have f23 := hpq.1
            replace hpq := hpq.2
            clear hpq
            replace f12 : vals 12 = _ := f12
            replace f17 : vals 17 = _ := f17
            replace f23 : vals 23 = _ := f23
            simp only [List.getD_cons_zero, List.getD_cons_succ, canonP, f12, f17, f23]
            clear f12 f17 f23
            simp only [Oper.gives]
            go_simp
            exact ⟨is_mk _ _, (Touch.refl []) _⟩
          case o25 =>
            intro vals wq hRq hpq
            simp only [factsP, List.getD_cons_zero, List.getD_cons_succ] at hpq
            have f12 := hpq.1
            replace hpq := hpq.2
            have f24 := hpq.1
            replace hpq := hpq.2
            clear hpq
            replace f12 : vals 12 = _ := f12
            replace f24 : vals 24 = _ := f24
            simp only [List.getD_cons_zero, List.getD_cons_succ, canonP, f12, f24]
            clear f12 f24
            simp only [Oper.gives]
            go_simp
            exact ⟨is_mk _ _, (Touch.refl []) _⟩
          intro vals wz hRwz hfwz
          simp only [AllFacts] at hfwz
          have g0 := hfwz.1
          replace hfwz := hfwz.2
          have g1 := hfwz.1
          replace hfwz := hfwz.2
          have g2 := hfwz.1
          replace hfwz := hfwz.2
          have g3 := hfwz.1
          replace hfwz := hfwz.2
          have g4 := hfwz.1
          replace hfwz := hfwz.2
          have g5 := hfwz.1
          replace hfwz := hfwz.2
          have g6 := hfwz.1
          replace hfwz := hfwz.2
          have g7 := hfwz.1
          replace hfwz := hfwz.2
          have g8 := hfwz.1
          replace hfwz := hfwz.2
          have g9 := hfwz.1
          replace hfwz := hfwz.2
          have g10 := hfwz.1
          replace hfwz := hfwz.2
          have g11 := hfwz.1
          replace hfwz := hfwz.2
          have g12 := hfwz.1
          replace hfwz := hfwz.2
          have g13 := hfwz.1
          replace hfwz := hfwz.2
          have g14 := hfwz.1
          replace hfwz := hfwz.2
          have g15 := hfwz.1
          replace hfwz := hfwz.2
          have g16 := hfwz.1
          replace hfwz := hfwz.2
          have g17 := hfwz.1
          replace hfwz := hfwz.2
          have g18 := hfwz.1
          replace hfwz := hfwz.2
          have g19 := hfwz.1
          replace hfwz := hfwz.2
          have g20 := hfwz.1
          replace hfwz := hfwz.2
          have g21 := hfwz.1
          replace hfwz := hfwz.2
          have g22 := hfwz.1
          replace hfwz := hfwz.2
          have g23 := hfwz.1
          replace hfwz := hfwz.2
          have g24 := hfwz.1
          replace hfwz := hfwz.2
          have g25 := hfwz.1
          replace hfwz := hfwz.2
          clear hfwz
          replace g0 : vals 0 = _ := g0
          replace g1 : vals 1 = _ := g1
          replace g2 : vals 2 = _ := g2
          replace g3 : vals 3 = _ := g3
          replace g4 : vals 4 = _ := g4
          replace g5 : vals 5 = _ := g5
          replace g6 : vals 6 = _ := g6
          replace g7 : vals 7 = _ := g7
          replace g8 : vals 8 = _ := g8
          replace g9 : vals 9 = _ := g9
          replace g10 : vals 10 = _ := g10
          replace g11 : vals 11 = _ := g11
          replace g12 : vals 12 = _ := g12
          replace g13 : vals 13 = _ := g13
          replace g14 : vals 14 = _ := g14
          replace g15 : vals 15 = _ := g15
          replace g16 : vals 16 = _ := g16
          replace g17 : vals 17 = _ := g17
          replace g18 : vals 18 = _ := g18
          replace g19 : vals 19 = _ := g19
          replace g20 : vals 20 = _ := g20
          replace g21 : vals 21 = _ := g21
          replace g22 : vals 22 = _ := g22
          replace g23 : vals 23 = _ := g23
          replace g24 : vals 24 = _ := g24
          replace g25 : vals 25 = _ := g25
          simp only [canonP, Act.put, List.setIfInBounds_toArray, List.set_cons_succ, List.set_cons_zero, g0, g1, g2, g3, g4, g5, g6, g7, g8, g9, g10, g11, g12, g13, g14, g15, g16, g17, g18, g19, g20, g21, g22, g23, g24, g25]
          clear g0 g1 g2 g3 g4 g5 g6 g7 g8 g9 g10 g11 g12 g13 g14 g15 g16 g17 g18 g19 g20 g21 g22 g23 g24 g25
          have HI6 := Lib.hid (HI5.out.later (((Touch.drew [] W5).trans hRwz (by simp)).below (Nat.le_refl _) (by simp)))
          have HG6 := Lib.hid (HG5.out.trans (((Touch.drew [] W5).trans hRwz (by simp)).below (Nat.le_refl _) (by simp)))
          clear hRwz
          go_wp2_with fail
          go_roundw
          case rel => exact ⟨c + 1, by omega, by go_num, HI6, HG6⟩
          case measure => simp [intOf]; omega
        | false =>
          have HHD := Lib.hid (fun wq (hq : Touch [] W5 wq) => by have := has_ok ((HD5.out.grow HG5.out).grow (hq.below (Nat.le_refl _) (by simp))) (by have := HL9.out; omega) (c : Int); rw [sel_in N _ c hlt, hdt] at this; exact this)
          have HRG := Lib.hid (HI5.out.row.range (i := c) (c := bc x) (by rw [List.getElem?_map, HMX.out hdt]; rfl))
          clear hdt
          refine wp_region_facts (by kernel_rfl) [[], [(0, some 55)], [(1, some 56)], [(2, some 57)], [(2, some 57)], [(2, some 57), (3, some 58), (4, some 59)], [(2, some 57), (5, some 60)], [(6, some 61)], [(6, some 61)], [(6, some 61), (7, some 62), (8, some 63)], [(2, some 57), (6, some 61), (9, some 64)], [(2, some 57), (10, some 65)], [(9, some 64), (11, some 66)], [(12, some 67)], [(12, some 67)], [(12, some 67), (13, some 68), (14, some 69)], [(12, some 67), (15, some 70)], [(12, some 67), (15, some 70), (16, some 71)], [(17, some 72)], [(17, some 72)], [(17, some 72)], [(17, some 72), (19, some 74), (20, some 75)], [(17, some 72), (21, some 76)], [(17, some 72), (18, some 73), (22, some 77)], [(12, some 67), (17, some 72), (23, some 78)], [(12, some 67), (24, some 79)]] [(0, some 55), (1, some 56), (2, some 57), (3, some 58), (4, some 59), (5, some 60), (6, some 61), (7, some 62), (8, some 63), (9, some 64), (10, some 65), (11, some 66), (12, some 67), (13, some 68), (14, some 69), (15, some 70), (16, some 71), (17, some 72), (18, some 73), (19, some 74), (20, some 75), (21, some 76), (22, some 77), (23, some 78), (24, some 79), (25, some 80)] (by kernel_rfl) (by kernel_rfl) (by kernel_rfl) (Touch []) (Touch.refl []) (fun _ _ _ h h' => h.trans h' (fun i hi => .inl hi)) [Is (Value.int .i64 0), Is (Value.bool false), Is (Value.bool false), Is (Value.slice a9 n9 c9), Is (Value.int .i64 (c : Int)), Is (Value.bool false), Is (Value.bool false), Is (undef), Is (undef), Is (undef), Is (Value.bool false), Is (Value.bool false), Is (Value.bool false), Is (Value.slice a9 n9 c9), Is (Value.int .i64 (c : Int)), Is (Value.bool false), Is (Value.bool true), Is (Value.bool true), Is (Value.agg (bc x).toArray), Is (Value.slice (some ⟨gm, 0, none⟩) N N), Is (Value.int .i64 (c : Int)), Is (Value.pointer (some ⟨gm, c * 256, none⟩)), Is (Value.agg (bc x).toArray), Is (Value.bool false), Is (Value.bool false), Is (Value.bool false)] rfl ⟨is_stab _ _, is_stab _ _, is_stab _ _, is_stab _ _, is_stab _ _, is_stab _ _, is_stab _ _, is_stab _ _, is_stab _ _, is_stab _ _, is_stab _ _, is_stab _ _, is_stab _ _, is_stab _ _, is_stab _ _, is_stab _ _, is_stab _ _, is_stab _ _, is_stab _ _, is_stab _ _, is_stab _ _, is_stab _ _, is_stab _ _, is_stab _ _, is_stab _ _, is_stab _ _, trivial⟩ ⟨?o0, ?o1, ?o2, ?o3, ?o4, ?o5, ?o6, ?o7, ?o8, ?o9, ?o10, ?o11, ?o12, ?o13, ?o14, ?o15, ?o16, ?o17, ?o18, ?o19, ?o20, ?o21, ?o22, ?o23, ?o24, ?o25, trivial⟩ ?_
          case o0 =>
            intro vals wq hRq hpq
            simp only [List.getD_cons_zero, List.getD_cons_succ, canonP]
            simp only [Oper.gives]
            go_simp
            exact ⟨is_mk _ _, (Touch.refl []) _⟩
          case o1 =>
            intro vals wq hRq hpq
            simp only [factsP, List.getD_cons_zero, List.getD_cons_succ] at hpq
            have f0 := hpq.1
            replace hpq := hpq.2
            clear hpq
            replace f0 : vals 0 = _ := f0
            simp only [List.getD_cons_zero, List.getD_cons_succ, canonP, f0]
            clear f0
            simp only [Oper.gives]
            go_simp
            exact ⟨is_mk _ _, (Touch.refl []) _⟩
          case o2 =>
            intro vals wq hRq hpq
            simp only [factsP, List.getD_cons_zero, List.getD_cons_succ] at hpq
            have f1 := hpq.1
            replace hpq := hpq.2
            clear hpq
            replace f1 : vals 1 = _ := f1
            simp only [List.getD_cons_zero, List.getD_cons_succ, canonP, f1]
            clear f1
            simp only [Oper.gives]
            go_simp
            exact ⟨is_mk _ _, (Touch.refl []) _⟩
          case o3 =>
            intro vals wq hRq hpq
            simp only [factsP, List.getD_cons_zero, List.getD_cons_succ] at hpq
            have f2 := hpq.1
            replace hpq := hpq.2
            clear hpq
            replace f2 : vals 2 = _ := f2
            simp only [List.getD_cons_zero, List.getD_cons_succ, canonP, f2]
            clear f2
            simp only [Oper.gives]
            go_simp
            exact ⟨is_mk _ _, (Touch.refl []) _⟩
          case o4 =>
            intro vals wq hRq hpq
            simp only [factsP, List.getD_cons_zero, List.getD_cons_succ] at hpq
            have f2 := hpq.1
            replace hpq := hpq.2
            clear hpq
            replace f2 : vals 2 = _ := f2
            simp only [List.getD_cons_zero, List.getD_cons_succ, canonP, f2]
            clear f2
            simp only [Oper.gives]
            go_simp
            exact ⟨is_mk _ _, (Touch.refl []) _⟩
          case o5 =>
            intro vals wq hRq hpq
            simp only [factsP, List.getD_cons_zero, List.getD_cons_succ] at hpq
            have f2 := hpq.1
            replace hpq := hpq.2
            have f3 := hpq.1
            replace hpq := hpq.2
            have f4 := hpq.1
            replace hpq := hpq.2
            clear hpq
            replace f2 : vals 2 = _ := f2
            replace f3 : vals 3 = _ := f3
            replace f4 : vals 4 = _ := f4
            simp only [List.getD_cons_zero, List.getD_cons_succ, canonP, f2, f3, f4]
            clear f2 f3 f4
            simp only [Oper.gives]
            go_simp
            exact (HHD.out wq ((Touch.drew [] _).trans hRq (by simp))).mono fun e w' ⟨he, hg⟩ => ⟨_, he, is_mk _ _, Touch.of_below hg⟩
          case o6 =>
            intro vals wq hRq hpq
            simp only [factsP, List.getD_cons_zero, List.getD_cons_succ] at hpq
            have f2 := hpq.1
            replace hpq := hpq.2
            have f5 := hpq.1
            replace hpq := hpq.2
            clear hpq
            replace f2 : vals 2 = _ := f2
            replace f5 : vals 5 = _ := f5
            simp only [List.getD_cons_zero, List.getD_cons_succ, canonP, f2, f5]
            clear f2 f5
            simp only [Oper.gives]
            go_simp
            exact ⟨is_mk _ _, (Touch.refl []) _⟩
          case o7 =>
            intro vals wq hRq hpq
            simp only [factsP, List.getD_cons_zero, List.getD_cons_succ] at hpq
            have f6 := hpq.1
            replace hpq := hpq.2
            clear hpq
            replace f6 : vals 6 = _ := f6
            simp only [List.getD_cons_zero, List.getD_cons_succ, canonP, f6]
            clear f6
            simp only [Oper.gives]
            go_simp
            exact is_mk _ _
          case o8 =>
            intro vals wq hRq hpq
            simp only [factsP, List.getD_cons_zero, List.getD_cons_succ] at hpq
            have f6 := hpq.1
            replace hpq := hpq.2
            clear hpq
            replace f6 : vals 6 = _ := f6
            simp only [List.getD_cons_zero, List.getD_cons_succ, canonP, f6]
            clear f6
            simp only [Oper.gives]
            go_simp
            exact is_mk _ _
          case o9 =>
            intro vals wq hRq hpq
            simp only [factsP, List.getD_cons_zero, List.getD_cons_succ] at hpq
            have f6 := hpq.1
            replace hpq := hpq.2
            have f7 := hpq.1
            replace hpq := hpq.2
            have f8 := hpq.1
            replace hpq := hpq.2
            clear hpq
            replace f6 : vals 6 = _ := f6
            replace f7 : vals 7 = _ := f7
            replace f8 : vals 8 = _ := f8
            simp only [List.getD_cons_zero, List.getD_cons_succ, canonP, f6, f7, f8]
            clear f6 f7 f8
            simp only [Oper.gives]
            go_simp
            exact is_mk _ _
          case o10 =>
            intro vals wq hRq hpq
            simp only [factsP, List.getD_cons_zero, List.getD_cons_succ] at hpq
            have f2 := hpq.1
            replace hpq := hpq.2
            have f6 := hpq.1
            replace hpq := hpq.2
            have f9 := hpq.1
            replace hpq := hpq.2
            clear hpq
            replace f2 : vals 2 = _ := f2
            replace f6 : vals 6 = _ := f6
            replace f9 : vals 9 = _ := f9
            simp only [List.getD_cons_zero, List.getD_cons_succ, canonP, f2, f6, f9]
            clear f2 f6 f9
            simp only [Oper.gives]
            go_simp
            exact ⟨is_mk _ _, (Touch.refl []) _⟩
          case o11 =>
            intro vals wq hRq hpq
            simp only [factsP, List.getD_cons_zero, List.getD_cons_succ] at hpq
            have f2 := hpq.1
            replace hpq := hpq.2
            have f10 := hpq.1
            replace hpq := hpq.2
            clear hpq
            replace f2 : vals 2 = _ := f2
            replace f10 : vals 10 = _ := f10
            simp only [List.getD_cons_zero, List.getD_cons_succ, canonP, f2, f10]
            clear f2 f10
            simp only [Oper.gives]
            go_simp
            exact ⟨is_mk _ _, (Touch.refl []) _⟩
          case o12 =>
            intro vals wq hRq hpq
            simp only [factsP, List.getD_cons_zero, List.getD_cons_succ] at hpq
            have f9 := hpq.1
            replace hpq := hpq.2
            have f11 := hpq.1
            replace hpq := hpq.2
            clear hpq
            replace f9 : vals 9 = _ := f9
            replace f11 : vals 11 = _ := f11
            simp only [List.getD_cons_zero, List.getD_cons_succ, canonP, f9, f11]
            clear f9 f11
            simp only [Oper.gives]
            go_simp
            exact ⟨is_mk _ _, (Touch.refl []) _⟩
          case o13 =>
            intro vals wq hRq hpq
            simp only [factsP, List.getD_cons_zero, List.getD_cons_succ] at hpq
            have f12 := hpq.1
            replace hpq := hpq.2
            clear hpq
            replace f12 : vals 12 = _ := f12
            simp only [List.getD_cons_zero, List.getD_cons_succ, canonP, f12]
            clear f12
            simp only [Oper.gives]
            go_simp
            exact ⟨is_mk _ _, (Touch.refl []) _⟩
          case o14 =>
            intro vals wq hRq hpq
            simp only [factsP, List.getD_cons_zero, List.getD_cons_succ] at hpq
            have f12 := hpq.1
            replace hpq := hpq.2
            clear hpq
            replace f12 : vals 12 = _ := f12
            simp only [List.getD_cons_zero, List.getD_cons_succ, canonP, f12]
            clear f12
            simp only [Oper.gives]
            go_simp
            exact ⟨is_mk _ _, (Touch.refl []) _⟩
          case o15 =>
            intro vals wq hRq hpq
            simp only [factsP, List.getD_cons_zero, List.getD_cons_succ] at hpq
            have f12 := hpq.1
            replace hpq := hpq.2
            have f13 := hpq.1
            replace hpq := hpq.2
            have f14 := hpq.1
            replace hpq := hpq.2
            clear hpq
            replace f12 : vals 12 = _ := f12
            replace f13 : vals 13 = _ := f13
            replace f14 : vals 14 = _ := f14
            simp only [List.getD_cons_zero, List.getD_cons_succ, canonP, f12, f13, f14]
            clear f12 f13 f14
            simp only [Oper.gives]
            go_simp
            exact (HHD.out wq ((Touch.drew [] _).trans hRq (by simp))).mono fun e w' ⟨he, hg⟩ => ⟨_, he, is_mk _ _, Touch.of_below hg⟩
          case o16 =>
            intro vals wq hRq hpq
            simp only [factsP, List.getD_cons_zero, List.getD_cons_succ] at hpq
            have f12 := hpq.1
            replace hpq := hpq.2
            have f15 := hpq.1
            replace hpq := hpq.2
            clear hpq
            replace f12 : vals 12 = _ := f12
            replace f15 : vals 15 = _ := f15
            simp only [List.getD_cons_zero, List.getD_cons_succ, canonP, f12, f15]
            clear f12 f15
            simp only [Oper.gives]
            go_simp
            exact ⟨is_mk _ _, (Touch.refl []) _⟩
          case o17 =>
            intro vals wq hRq hpq
            simp only [factsP, List.getD_cons_zero, List.getD_cons_succ] at hpq
            have f12 := hpq.1
            replace hpq := hpq.2
            have f15 := hpq.1
            replace hpq := hpq.2
            have f16 := hpq.1
            replace hpq := hpq.2
            clear hpq
            replace f12 : vals 12 = _ := f12
            replace f15 : vals 15 = _ := f15
            replace f16 : vals 16 = _ := f16
            simp only [List.getD_cons_zero, List.getD_cons_succ, canonP, f12, f15, f16]
            clear f12 f15 f16
            simp only [Oper.gives]
            go_simp
            exact ⟨is_mk _ _, (Touch.refl []) _⟩
          case o18 =>
            intro vals wq hRq hpq
            simp only [factsP, List.getD_cons_zero, List.getD_cons_succ] at hpq
            have f17 := hpq.1
            replace hpq := hpq.2
            clear hpq
            replace f17 : vals 17 = _ := f17
            simp only [List.getD_cons_zero, List.getD_cons_succ, canonP, f17]
            clear f17
            have hbx : wq.heap[BX]? = some (.cells (bc x).toArray 32) := (Touch.block ((Touch.drew [] _).trans hRq (by simp)) BX HCX.out.1 (by simp)).trans HCX.out.2
            rw [if_pos (by rfl)]
            exact gives_load_row 32 _ rfl BX rfl 32 (bc x).toArray (0, 0) _ hbx Try.underlying32 rfl HSz.out ⟨is_mk _ _, Touch.refl _ _⟩
          case o19 =>
            intro vals wq hRq hpq
            simp only [factsP, List.getD_cons_zero, List.getD_cons_succ] at hpq
            have f17 := hpq.1
            replace hpq := hpq.2
            clear hpq
            replace f17 : vals 17 = _ := f17
            simp only [List.getD_cons_zero, List.getD_cons_succ, canonP, f17]
            clear f17
            simp only [Oper.gives]
            go_simp
            exact ⟨is_mk _ _, (Touch.refl []) _⟩
          case o20 =>
            intro vals wq hRq hpq
            simp only [factsP, List.getD_cons_zero, List.getD_cons_succ] at hpq
            have f17 := hpq.1
            replace hpq := hpq.2
            clear hpq
            replace f17 : vals 17 = _ := f17
            simp only [List.getD_cons_zero, List.getD_cons_succ, canonP, f17]
            clear f17
            simp only [Oper.gives]
            go_simp
            exact ⟨is_mk _ _, (Touch.refl []) _⟩
          case o21 =>
            intro vals wq hRq hpq
            simp only [factsP, List.getD_cons_zero, List.getD_cons_succ] at hpq
            have f17 := hpq.1
            replace hpq := hpq.2
            have f19 := hpq.1
            replace hpq := hpq.2
            have f20 := hpq.1
            replace hpq := hpq.2
            clear hpq
            replace f17 : vals 17 = _ := f17
            replace f19 : vals 19 = _ := f19
            replace f20 : vals 20 = _ := f20
            simp only [List.getD_cons_zero, List.getD_cons_succ, canonP, f17, f19, f20]
            clear f17 f19 f20
            have hb0 : (0 : Int) ≤ (c : Int) := by omega
            have hb1 : (c : Int) < (N : Int) := by omega
            simp only [Oper.gives]
            go_simp
            exact ⟨is_mk _ _, Touch.refl _ _⟩
          case o22 =>
            intro vals wq hRq hpq
            simp only [factsP, List.getD_cons_zero, List.getD_cons_succ] at hpq
            have f17 := hpq.1
            replace hpq := hpq.2
            have f21 := hpq.1
            replace hpq := hpq.2
            clear hpq
            replace f17 : vals 17 = _ := f17
            replace f21 : vals 21 = _ := f21
            simp only [List.getD_cons_zero, List.getD_cons_succ, canonP, f17, f21]
            clear f17 f21
            have hrr := range_touch HRG.out ((Touch.drew [] _).trans hRq (by simp)) HGL.out (by simp)
            rw [if_pos (by rfl)]
            exact gives_load_mid 32 _ rfl gm (c * 256) rfl (bc x) _ hrr Try.underlying32 rfl HSl.out ⟨is_mk _ _, Touch.refl _ _⟩
          case o23 =>
            intro vals wq hRq hpq
            simp only [factsP, List.getD_cons_zero, List.getD_cons_succ] at hpq
            have f17 := hpq.1
            replace hpq := hpq.2
            have f18 := hpq.1
            replace hpq := hpq.2
            have f22 := hpq.1
            replace hpq := hpq.2
            clear hpq
            replace f17 : vals 17 = _ := f17
            replace f18 : vals 18 = _ := f18
            replace f22 : vals 22 = _ := f22
            simp only [List.getD_cons_zero, List.getD_cons_succ, canonP, f17, f18, f22]
            clear f17 f18 f22
            have hq1 := HEQ.out
            have hgT := guardT
            simp only [Oper.gives]
            go_simp
            exact ⟨is_mk _ _, Touch.refl _ _⟩
          case o24 =>
            intro vals wq hRq hpq
            simp only [factsP, List.getD_cons_zero, List.getD_cons_succ] at hpq
            have f12 := hpq.1
            replace hpq := hpq.2
            have f17 := hpq.1
            replace hpq := hpq.2
            have f23 := hpq.1
            replace hpq := hpq.2
            clear hpq
            replace f12 : vals 12 = _ := f12
            replace f17 : vals 17 = _ := f17
            replace f23 : vals 23 = _ := f23
            simp only [List.getD_cons_zero, List.getD_cons_succ, canonP, f12, f17, f23]
            clear f12 f17 f23
            simp only [Oper.gives]
            go_simp
            exact ⟨is_mk _ _, (Touch.refl []) _⟩
          case o25 =>
            intro vals wq hRq hpq
            simp only [factsP, List.getD_cons_zero, List.getD_cons_succ] at hpq
            have f12 := hpq.1
            replace hpq := hpq.2
            have f24 := hpq.1
            replace hpq := hpq.2
            clear hpq
            replace f12 : vals 12 = _ := f12
            replace f24 : vals 24 = _ := f24
            simp only [List.getD_cons_zero, List.getD_cons_succ, canonP, f12, f24]
            clear f12 f24
            simp only [Oper.gives]
            go_simp
            exact ⟨is_mk _ _, (Touch.refl []) _⟩
          intro vals wz hRwz hfwz
          simp only [AllFacts] at hfwz
          have g0 := hfwz.1
          replace hfwz := hfwz.2
          have g1 := hfwz.1
          replace hfwz := hfwz.2
          have g2 := hfwz.1
          replace hfwz := hfwz.2
          have g3 := hfwz.1
          replace hfwz := hfwz.2
          have g4 := hfwz.1
          replace hfwz := hfwz.2
          have g5 := hfwz.1
          replace hfwz := hfwz.2
          have g6 := hfwz.1
          replace hfwz := hfwz.2
          have g7 := hfwz.1
          replace hfwz := hfwz.2
          have g8 := hfwz.1
          replace hfwz := hfwz.2
          have g9 := hfwz.1
          replace hfwz := hfwz.2
          have g10 := hfwz.1
          replace hfwz := hfwz.2
          have g11 := hfwz.1
          replace hfwz := hfwz.2
          have g12 := hfwz.1
          replace hfwz := hfwz.2
          have g13 := hfwz.1
          replace hfwz := hfwz.2
          have g14 := hfwz.1
          replace hfwz := hfwz.2
          have g15 := hfwz.1
          replace hfwz := hfwz.2
          have g16 := hfwz.1
          replace hfwz := hfwz.2
          have g17 := hfwz.1
          replace hfwz := hfwz.2
          have g18 := hfwz.1
          replace hfwz := hfwz.2
          have g19 := hfwz.1
          replace hfwz := hfwz.2
          have g20 := hfwz.1
          replace hfwz := hfwz.2
          have g21 := hfwz.1
          replace hfwz := hfwz.2
          have g22 := hfwz.1
          replace hfwz := hfwz.2
          have g23 := hfwz.1
          replace hfwz := hfwz.2
          have g24 := hfwz.1
          replace hfwz := hfwz.2
          have g25 := hfwz.1
          replace hfwz := hfwz.2
          clear hfwz
          replace g0 : vals 0 = _ := g0
          replace g1 : vals 1 = _ := g1
          replace g2 : vals 2 = _ := g2
          replace g3 : vals 3 = _ := g3
          replace g4 : vals 4 = _ := g4
          replace g5 : vals 5 = _ := g5
          replace g6 : vals 6 = _ := g6
          replace g7 : vals 7 = _ := g7
          replace g8 : vals 8 = _ := g8
          replace g9 : vals 9 = _ := g9
          replace g10 : vals 10 = _ := g10
          replace g11 : vals 11 = _ := g11
          replace g12 : vals 12 = _ := g12
          replace g13 : vals 13 = _ := g13
          replace g14 : vals 14 = _ := g14
          replace g15 : vals 15 = _ := g15
          replace g16 : vals 16 = _ := g16
          replace g17 : vals 17 = _ := g17
          replace g18 : vals 18 = _ := g18
          replace g19 : vals 19 = _ := g19
          replace g20 : vals 20 = _ := g20
          replace g21 : vals 21 = _ := g21
          replace g22 : vals 22 = _ := g22
          replace g23 : vals 23 = _ := g23
          replace g24 : vals 24 = _ := g24
          replace g25 : vals 25 = _ := g25
          simp only [canonP, Act.put, List.setIfInBounds_toArray, List.set_cons_succ, List.set_cons_zero, g0, g1, g2, g3, g4, g5, g6, g7, g8, g9, g10, g11, g12, g13, g14, g15, g16, g17, g18, g19, g20, g21, g22, g23, g24, g25]
          clear g0 g1 g2 g3 g4 g5 g6 g7 g8 g9 g10 g11 g12 g13 g14 g15 g16 g17 g18 g19 g20 g21 g22 g23 g24 g25
          have HI6 := Lib.hid (HI5.out.later (((Touch.drew [] W5).trans hRwz (by simp)).below (Nat.le_refl _) (by simp)))
          have HG6 := Lib.hid (HG5.out.trans (((Touch.drew [] W5).trans hRwz (by simp)).below (Nat.le_refl _) (by simp)))
          clear hRwz
          go_wp2_with fail
          go_roundw
          case rel => exact ⟨c + 1, by omega, by go_num, HI6, HG6⟩
          case measure => simp [intOf]; omega
      · obtain rfl : N = c := by omega
        go_wp2_with fail
        go_ret
        exact ⟨rfl, HI.out.grow⟩
#print axioms lists_walk
end Go.Proofs.Ytmfofobmceflmaa
