/- The law CacheDrops: the walk. -/
import Derived.Test.YtmfofobmceflmaaC14
set_option linter.unusedVariables false
set_option linter.unusedSimpArgs false
namespace Go.Proofs.Ytmfofobmceflmaa
open Go.RowKit Go.Maps

theorem below_of_stands {w w1 w2 : World} {C B : Nat} {U : List Nat} {n : Nat} {s : CS} (hg : Grow w w1) (hlo : ∀ j ∈ U, w.heap.size ≤ j) (h : Stands C B U n s w1 w2) : Grow w w2 := by
  obtain ⟨U', _, ht, _⟩ := h
  exact Below.trans hg (ht.below hg.size hlo)
set_option maxRecDepth 100000 in
set_option maxHeartbeats 4000000 in
theorem drops_walk (n : Int) (hn : IntOk n) {w : World} {v : Value} {l : List DP} (hp : DosIn w v l) (hl : l.length ≤ 9223372036854775807) (b : Int) (hb : IntOk b) (pin : Bool) :
    Calls Try.prog 6 #[.int .i64 n, v, .int .i64 b, .bool pin] w fun e w' => e = .returned (.bool true) ∧ Below w.heap.size w w' := by
  obtain ⟨ad, cap, rfl⟩ := hp.len
  by_cases h3 : 200 < l.length
  · generalize l.length = L at *
    clear hp
    have d0 : decide ((200 : Int) < (L : Int)) = true := by simp; omega
    go_enter Try.func6, Try.ntmps6
    go_wp2_with fail
    go_ret
    exact ⟨rfl, Below.refl _ _⟩
  · obtain ⟨N, hN⟩ : ∃ N : Nat, (N : Int) = 1 + n % 64 := ⟨(1 + n % 64).toNat, by omega⟩
    have h1 : 1 ≤ N := by omega
    have h2 : N ≤ 64 := by omega
    have HW := Lib.hid (ran_ok n hn N hN hp (by omega))
    obtain ⟨L, hL⟩ : ∃ L, L = l.length := ⟨_, rfl⟩
    rw [← hL] at h3 HW ⊢
    have d0 : decide ((200 : Int) < (L : Int)) = false := by simp; omega
    obtain ⟨c, hcN, hcv⟩ := ran_at b N h1 h2
    have eN : ((N : Int) == 0) = false := by simp; omega
    have HOK := Lib.hid (show IntOk (c : Int) by unfold IntOk; omega)
    clear hn hN hp hL hl
    cases pin with
    | true =>
      go_enter Try.func6, Try.ntmps6
      go_wp2_with fail
      refine HW.out.mono ?_
      intro e w1 hpost
      obtain ⟨C, B, gm, U, s, m, he, hr⟩ := hpost
      subst he
      have HI := Lib.hid hr
      have HAS := Lib.hid (show s.askI c = 0 from if_pos (by rw [hr.good.safe]; omega))
      clear hr HW
      go_wp2_with fail
      refine (cpin_on HI.out.cache (by omega) (c : Int) HAS.out HOK.out).mono ?_
      intro e w2 hpost
      obtain ⟨⟨ve, he⟩, hc2, ht2⟩ := hpost
      subst he
      have HC2 := Lib.hid hc2
      have HG2 := Lib.hid (show Grow w w2 from Below.trans HI.out.grow (ht2.below HI.out.grow.size HI.out.lo))
      have HPT := Lib.hid (show putP s.p c c = true by simp [putP])
      clear hc2 ht2
      go_wp2_with fail
      refine (cdrop_pinned HC2.out (c : Int) HAS.out HOK.out HPT.out).mono ?_
      intro e w3 hpost
      obtain ⟨he, hg3⟩ := hpost
      subst he
      have HC3 := Lib.hid (HC2.out.grow hg3)
      have HG3 := Lib.hid (HG2.out.trans hg3)
      have HGD := Lib.hid (HI.out.good.same (s' := { s with p := putP s.p c }) rfl)
      have HCL := Lib.hid (by have := clean_ok HC3.out; rw [show ({ s with p := putP s.p c } : CS).d.safe.length = N from HGD.out.safe] at this; exact this)
      have HNC := Lib.hid (show decide ((c : Int) ∈ selL N (isClean s.f (putP s.p c))) = false by
        rw [sel_in N _ c hcN]
        unfold isClean
        split
        · rw [HPT.out]; simp
        · rfl)
      clear hg3 HC2 HG2
      go_wp2_with fail
      refine HCL.out.mono ?_
      intro e w4 hpost
      obtain ⟨v4, he, hr4, hg4, _⟩ := hpost
      subst he
      have HR4 := Lib.hid hr4
      have HC4 := Lib.hid (HC3.out.grow hg4)
      have HG4 := Lib.hid (HG3.out.trans hg4)
      have HLL := Lib.hid (selL_length N (isClean s.f (putP s.p c)))
      clear hr4 hg4 HC3 HG3
      go_wp2_with fail
      refine (has_ok HR4.out (show (selL N (isClean s.f (putP s.p c))).length ≤ 100000 by have := HLL.out; omega) (c : Int)).mono ?_
      intro e w5 hpost
      obtain ⟨he, hg5⟩ := hpost
      rw [show decide ((c : Int) ∈ selL N (isClean ({ s with p := putP s.p c } : CS).f ({ s with p := putP s.p c } : CS).p)) = false from HNC.out] at he
      subst he
      have HC5 := Lib.hid (HC4.out.grow hg5)
      have HG5 := Lib.hid (HG4.out.trans hg5)
      clear hg5 HC4 HG4 HR4
      go_wp2_with fail
      refine (evicted_ok HC5.out HGD.out h2).mono ?_
      intro e w6 hpost
      obtain ⟨v6, he, hr6, hst6⟩ := hpost
      subst he
      have HR6 := Lib.hid hr6
      have HG6 := Lib.hid (below_of_stands HG5.out HI.out.lo hst6)
      clear hr6 hst6 HC5 HG5
      go_wp2_with fail
      refine (has_ok HR6.out (show (selL N (isClean s.f (putP s.p c))).length ≤ 100000 by have := HLL.out; omega) (c : Int)).mono ?_
      intro e w7 hpost
      obtain ⟨he, hg7⟩ := hpost
      rw [show decide ((c : Int) ∈ selL N (isClean ({ s with p := putP s.p c } : CS).f ({ s with p := putP s.p c } : CS).p)) = false from HNC.out] at he
      subst he
      have HG7 := Lib.hid (HG6.out.trans hg7)
      clear hg7
      go_wp2_with fail
      go_ret
      exact ⟨rfl, HG7.out⟩
    | false =>
      go_enter Try.func6, Try.ntmps6
      go_wp2_with fail
      refine HW.out.mono ?_
      intro e w1 hpost
      obtain ⟨C, B, gm, U, s, m, he, hr⟩ := hpost
      subst he
      have HI := Lib.hid hr
      have HAS := Lib.hid (show s.askI c = 0 from if_pos (by rw [hr.good.safe]; omega))
      have hll := hr.lens
      obtain ⟨x, hx⟩ : ∃ x, s.d.last[c]? = some x := ⟨s.d.last[c]'(by omega), by simp⟩
      have hxe : s.d.last[c]'(by omega) = x := (List.getElem?_eq_some_iff.1 hx).2
      have HX := Lib.hid (hr.cache.facts.2.2.2.1 x (List.mem_of_getElem? hx))
      have HXL := Lib.hid hx
      have HRD := Lib.hid (fun (wq : World) (S : List Nat) (hq : IsDisk wq B S s.d) => by have := read_ok hq c (by omega) HI.out.good.dead; rw [hxe] at this; exact this)
      have hz := zero32
      have hzs := zero_size
      have HSz := Lib.hid (bsize HX.out)
      have HO := Lib.hid (show (bc x).toArray.all (·.oneCell') = true from all_oneCell_toArray (bc_one _))
      have hq1 := fun w => equal32 x HX.out w
      have hgT := guardT
      generalize (bc zeroB).toArray = Z at *
      have HSo := Lib.hid (show Z.size = (bc x).toArray.size from hzs.trans (show 256 = (bc x).toArray.size by rw [List.size_toArray, bc_length, HX.out]))
      clear hr HW hll hx hxe hzs
      go_wp2_with fail
      refine (cpin_off HI.out.cache (c : Int) HAS.out HOK.out).mono ?_
      intro e w2 hpost
      obtain ⟨⟨ve, he⟩, hc2, ht2⟩ := hpost
      subst he
      have HC2 := Lib.hid hc2
      have HG2 := Lib.hid (show Grow w w2 from Below.trans HI.out.grow (ht2.below HI.out.grow.size HI.out.lo))
      have HPT := Lib.hid (show delP s.p c c = false by simp [delP])
      clear hc2 ht2
      go_wp2_with fail
      refine (cdrop_ok HC2.out (c : Int) HAS.out HOK.out HPT.out).mono ?_
      intro e w3 hpost
      obtain ⟨he, hc3, ht3⟩ := hpost
      subst he
      have HC3 := Lib.hid hc3
      have HG3 := Lib.hid (show Grow w w3 from Below.trans HG2.out (ht3.below HG2.out.size HI.out.lo))
      clear hc3 ht3 HC2 HG2
      go_wp2_with fail
      refine (cread_new HC3.out (by omega) c (show c < s.d.safe.length by rw [HI.out.good.safe]; exact hcN) (show delF s.f c c = none by simp [delF]) HI.out.good.dead x HXL.out).mono ?_
      intro e w4 hpost
      obtain ⟨he, hc4, ht4⟩ := hpost
      subst he
      have HC4 := Lib.hid hc4
      have HG4 := Lib.hid (show Grow w w4 from Below.trans HG3.out (ht4.below HG3.out.size HI.out.lo))
      clear hc4 ht4 HC3 HG3
      go_upto_region 12 with (refine wpList_store_row rfl 32 _ _ rfl w4.heap.size (bc x).toArray rfl rfl 32 Z (heap_alloc_last _ _) HSz.out HSo.out HO.out ?_)
      have hg5 : Grow w4 ((w4.alloc (.cells Z 32)).setRow w4.heap.size (bc x).toArray) := below_setRow ((Below.refl _ _).alloc (Nat.le_refl _) _) (Nat.le_refl _) _
      have HX5 := Lib.hid (show ((w4.alloc (.cells Z 32)).setRow w4.heap.size (bc x).toArray).heap[w4.heap.size]? = some (.cells (bc x).toArray 32) from setRow_heap _ _ _ _ _ _ (heap_alloc_last _ _))
      have HC5 := Lib.hid (HC4.out.grow hg5)
      have HG5 := Lib.hid (HG4.out.trans hg5)
      clear hg5 HC4 HG4
      generalize (w4.alloc (.cells Z 32)).setRow w4.heap.size (bc x).toArray = W5 at *
      obtain ⟨g4, hg4⟩ : ∃ g, g = w4.heap.size := ⟨_, rfl⟩
      rw [← hg4] at HX5
      rw [← hg4]
      clear hg4
      obtain ⟨S, hdk, _⟩ := HC5.out.disk
      have HDK := Lib.hid (show IsDisk W5 B S s.d from hdk)
      clear hdk
      go_wp2_with fail
      refine (HRD.out _ S HDK.out).mono ?_
      intro e w6 hpost
      obtain ⟨he, hg6⟩ := hpost
      subst he
      have HX6 := Lib.hid ((hg6.block g4 (Array.getElem?_eq_some_iff.1 HX5.out).1).trans HX5.out)
      have HC6 := Lib.hid (HC5.out.grow hg6)
      have HG6 := Lib.hid (HG5.out.trans hg6)
      clear hg6 HC5 HG5 HDK
      go_upto_region 13 with (refine wpList_store_row rfl 32 _ _ rfl w6.heap.size (bc x).toArray rfl rfl 32 Z (heap_alloc_last _ _) HSz.out HSo.out HO.out ?_)
      have hg7 : Grow w6 ((w6.alloc (.cells Z 32)).setRow w6.heap.size (bc x).toArray) := below_setRow ((Below.refl _ _).alloc (Nat.le_refl _) _) (Nat.le_refl _) _
      have HY7 := Lib.hid (show ((w6.alloc (.cells Z 32)).setRow w6.heap.size (bc x).toArray).heap[w6.heap.size]? = some (.cells (bc x).toArray 32) from setRow_heap _ _ _ _ _ _ (heap_alloc_last _ _))
      have HX7 := Lib.hid ((hg7.block g4 (Array.getElem?_eq_some_iff.1 HX6.out).1).trans HX6.out)
      have HC7 := Lib.hid (HC6.out.grow hg7)
      have HG7 := Lib.hid (HG6.out.trans hg7)
      clear hg7 HC6 HG6 HX6 HX5
      generalize (w6.alloc (.cells Z 32)).setRow w6.heap.size (bc x).toArray = W7 at *
      obtain ⟨g6, hg6⟩ : ∃ g, g = w6.heap.size := ⟨_, rfl⟩
      rw [← hg6] at HY7
      rw [← hg6]
      clear hg6
      generalize (bc x).toArray = X at *
      have HDI := Lib.hid (by have := dirty_ok HC7.out; rw [show ({ s with p := delP s.p c, f := putF (delF s.f c) c (x, false) } : CS).d.safe.length = N from HI.out.good.safe] at this; exact this)
      have HND := Lib.hid (show decide ((c : Int) ∈ selL N (isDirty (putF (delF s.f c) c (x, false)))) = false by rw [sel_in N _ c hcN, isDirty_put, if_pos rfl])
      have HLL := Lib.hid (selL_length N (isDirty (putF (delF s.f c) c (x, false))))
      go_wp2_with fail
      refine wp_load_row 32 _ rfl g4 rfl 32 X (0, 0) _ HX7.out Try.underlying32 rfl HSz.out ?_
      go_wp2_with fail
      refine wp_load_row 32 _ rfl g6 rfl 32 X (0, 0) _ HY7.out Try.underlying32 rfl HSz.out ?_
      go_wp2_with fail
      refine HDI.out.mono ?_
      intro e w8 hpost
      obtain ⟨v8, he, hr8, hg8, _⟩ := hpost
      subst he
      have HR8 := Lib.hid hr8
      have HG8 := Lib.hid (HG7.out.trans hg8)
      clear hr8 hg8
      go_wp2_with fail
      refine (has_ok HR8.out (show (selL N (isDirty (putF (delF s.f c) c (x, false)))).length ≤ 100000 by have := HLL.out; omega) (c : Int)).mono ?_
      intro e w9 hpost
      obtain ⟨he, hg9⟩ := hpost
      rw [show decide ((c : Int) ∈ selL N (isDirty ({ s with p := delP s.p c, f := putF (delF s.f c) c (x, false) } : CS).f)) = false from HND.out] at he
      subst he
      have HG9 := Lib.hid (HG8.out.trans hg9)
      clear hg9
      go_wp2_with fail
      go_ret
      exact ⟨rfl, HG9.out⟩
#print axioms drops_walk
end Go.Proofs.Ytmfofobmceflmaa
