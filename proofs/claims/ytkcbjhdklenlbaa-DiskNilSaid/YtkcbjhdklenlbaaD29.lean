/- The law DiskNil: the walk. -/
import Derived.Test.YtkcbjhdklenlbaaD28
import Derived.Test.YtkcbjhdklenlbaaD27
set_option linter.unusedVariables false
set_option linter.unusedSimpArgs false
namespace Go.Proofs.Ytkcbjhdklenlbaa
open Go.RowKit

theorem nil_lists (w : World) (o : Obj) : ∀ k : Nat, k < 2 → ∃ v, (((w.alloc o).alloc (.cells #[.slice none 0 0, .slice none 0 0, .slice none 0 0, .int .i64 0, .bool false, .int .i64 0] 68)).alloc (.cells #[.pointer none, .pointer (some ⟨w.heap.size + 1, 0, none⟩)] 23)).cell? ⟨w.heap.size + 1 + 1, k, none⟩ = some v ∧
    NoDisk (((w.alloc o).alloc (.cells #[.slice none 0 0, .slice none 0 0, .slice none 0 0, .int .i64 0, .bool false, .int .i64 0] 68)).alloc (.cells #[.pointer none, .pointer (some ⟨w.heap.size + 1, 0, none⟩)] 23)) v := by
  intro k hk
  have h3 := heap_two (w.alloc o) (.cells #[.slice none 0 0, .slice none 0 0, .slice none 0 0, .int .i64 0, .bool false, .int .i64 0] 68) (.cells #[.pointer none, .pointer (some ⟨w.heap.size + 1, 0, none⟩)] 23)
  have h2 := heap_one (w.alloc o) (.cells #[.slice none 0 0, .slice none 0 0, .slice none 0 0, .int .i64 0, .bool false, .int .i64 0] 68) (.cells #[.pointer none, .pointer (some ⟨w.heap.size + 1, 0, none⟩)] 23)
  rw [show (w.alloc o).heap.size = w.heap.size + 1 by simp] at h2 h3
  match k, hk with
  | 0, _ => exact ⟨_, cell_at h3 0, noDisk_nil _⟩
  | 1, _ => exact ⟨_, cell_at h3 1, noDisk_empty (by simp) (cell_at h2 0)⟩
theorem nil_arg (w : World) (o1 o2 : Obj) (C : Array Value) (t : TypeId) (j : Nat) : (((w.alloc (.cells C t)).alloc o1).alloc o2).cell? ⟨w.heap.size, j, none⟩ = C[j]? := by
  refine cell_at (t := t) ?_ j
  rw [Below.heap_alloc _ _ _ (by simp; omega)]
  exact heap_one w _ _

set_option maxRecDepth 100000 in
set_option maxHeartbeats 4000000 in
theorem nil_walk (k0 a : Int) (f : Nat) (hf : f < 4294967296) (vk : Value) (w : World) :
    Calls Try.prog 9 #[.agg #[.int .u8 k0, .int .i64 a, .int .u32 (f : Int), vk]] w fun e w' => e = .returned (.bool true) ∧ Below w.heap.size w w' := by
  have HBZ := Lib.hid (show Try.prog.built 32 [] = some (bc zeroB).toArray by kernel_rfl)
  have hz := zero32
  have HZ := Lib.hid (show (bc zeroB).toArray.size = 256 from zero_size)
  have HOZ := Lib.hid (show (bc zeroB).toArray.all (·.oneCell') = true from all_oneCell_toArray (bc_one _))
  have hq0 := neq32 zeroB zeroB_length
  have hg0 := fun x y w => guard32n x y (bc zeroB).toArray (bc zeroB).toArray w
  obtain ⟨Z, hZ⟩ : ∃ Z, Z = (bc zeroB).toArray := ⟨_, rfl⟩
  rw [← hZ] at HZ HBZ HOZ hz hq0 hg0
  have HSzZ := Lib.hid (show (Try.prog.info? 32).map (·.size) = some Z.size by rw [HZ.out]; exact size32)
  have HZE := Lib.hid hZ
  have HF := Lib.hid hf
  clear hf hZ
  go_enter Try.func9, Try.ntmps9
  go_wp2_with fail
  have HL := Lib.hid (nil_lists w (.cells #[.int .u8 k0, .int .i64 a, .int .u32 (f : Int), vk] 55))
  have hna := nil_arg w (.cells #[.slice none 0 0, .slice none 0 0, .slice none 0 0, .int .i64 0, .bool false, .int .i64 0] 68) (.cells #[.pointer none, .pointer (some ⟨w.heap.size + 1, 0, none⟩)] 23) #[.int .u8 k0, .int .i64 a, .int .u32 (f : Int), vk] 55
  have HA1 := Lib.hid (hna 1)
  have HA2 := Lib.hid (hna 2)
  have HA3 := Lib.hid (hna 3)
  have HG := Lib.hid (Grow.trans (Grow.alloc w (.cells #[.int .u8 k0, .int .i64 a, .int .u32 (f : Int), vk] 55)) (Grow.trans (Grow.alloc _ (.cells #[.slice none 0 0, .slice none 0 0, .slice none 0 0, .int .i64 0, .bool false, .int .i64 0] 68)) (Grow.alloc _ (.cells #[.pointer none, .pointer (some ⟨w.heap.size + 1, 0, none⟩)] 23))))
  have HS := Lib.hid (show w.heap.size + 3 ≤ (((w.alloc (.cells #[.int .u8 k0, .int .i64 a, .int .u32 (f : Int), vk] 55)).alloc (.cells #[.slice none 0 0, .slice none 0 0, .slice none 0 0, .int .i64 0, .bool false, .int .i64 0] 68)).alloc (.cells #[.pointer none, .pointer (some ⟨w.heap.size + 1, 0, none⟩)] 23)).heap.size by simp)
  clear hna
  obtain ⟨W0, hW0⟩ : ∃ W0, W0 = ((w.alloc (.cells #[.int .u8 k0, .int .i64 a, .int .u32 (f : Int), vk] 55)).alloc (.cells #[.slice none 0 0, .slice none 0 0, .slice none 0 0, .int .i64 0, .bool false, .int .i64 0] 68)).alloc (.cells #[.pointer none, .pointer (some ⟨w.heap.size + 1, 0, none⟩)] 23) := ⟨_, rfl⟩
  rw [← hW0] at HL HA1 HA2 HA3 HG HS
  rw [← hW0]
  clear hW0
  go_loopw [5] (fun t5 wr => ∃ (k : Nat), k ≤ 2 ∧ t5 = .int .i64 (k : Int) ∧ Hid (Grow W0 wr)) (fun t5 _ => 2 - (intOf t5).toNat)
  case atStart => exact ⟨0, by omega, rfl, Lib.hid (Grow.refl _)⟩
  case round =>
    obtain ⟨k, hk, rfl, HGr⟩ := hrel
    by_cases hlt : k < 2
    · have b0 : (0 : Int) ≤ (k : Int) := by omega
      have b1 : (k : Int) < 2 := by omega
      obtain ⟨v, hv, hn⟩ := HL.out k hlt
      have hs := HS.out
      have hcv : wr.cell? ⟨w.heap.size + 1 + 1, k, none⟩ = some v := (HGr.out.cell (p := ⟨w.heap.size + 1 + 1, k, none⟩) (show w.heap.size + 1 + 1 < W0.heap.size by omega)).trans hv
      have hca : wr.cell? ⟨w.heap.size, 1, none⟩ = some (.int .i64 a) := (HGr.out.cell (p := ⟨w.heap.size, 1, none⟩) (show w.heap.size < W0.heap.size by omega)).trans HA1.out
      have HN0 := Lib.hid (hn.later HGr.out)
      clear hv hn hs
      go_wp2_with fail
      refine (read_no HN0.out a).mono ?_
      intro e W4 hpost
      obtain ⟨he, hg4⟩ := hpost
      subst he
      rw [← HZE.out]
      have HN4 := Lib.hid (HN0.out.later hg4)
      have HG4 := Lib.hid (Grow.trans HGr.out hg4)
      clear hg4 HGr HN0 hcv hca
      go_wp2_with (refine wpList_store_row rfl 32 _ _ rfl W4.heap.size Z rfl rfl 32 Z (heap_alloc_last _ _) HSzZ.out rfl HOZ.out ?_)
      have ht5 : Touch [] W4 ((W4.alloc (.cells Z 32)).setRow W4.heap.size Z) := Touch.of_below (below_setRow ((Below.refl _ _).alloc (Nat.le_refl _) _) (Nat.le_refl _) _)
      have HX5 := Lib.hid (show W4.heap.size < ((W4.alloc (.cells Z 32)).setRow W4.heap.size Z).heap.size ∧ ((W4.alloc (.cells Z 32)).setRow W4.heap.size Z).heap[W4.heap.size]? = some (.cells Z 32 (0, 0)) from ⟨by simp, setRow_heap _ _ _ _ _ _ (heap_alloc_last _ _)⟩)
      have HN := Lib.hid (HN4.out.later (ht5.below (Nat.le_refl _) (by simp)))
      have HG5 := Lib.hid (Grow.trans HG4.out (ht5.below (Nat.le_refl _) (by simp)))
      clear ht5 HN4 HG4
      obtain ⟨W5, hW5⟩ : ∃ W5, W5 = (W4.alloc (.cells Z 32)).setRow W4.heap.size Z := ⟨_, rfl⟩
      rw [← hW5] at HX5 HN HG5
      rw [← hW5]
      clear hW5
      obtain ⟨P, hP⟩ : ∃ P, P = W4.heap.size := ⟨_, rfl⟩
      rw [← hP] at HX5
      rw [← hP]
      clear hP
      have HCb := Lib.hid (show w.heap.size < W5.heap.size by have := HS.out; have := HG5.out.size; omega)
      have HCa := Lib.hid ((HG5.out.cell (p := ⟨w.heap.size, 1, none⟩) (show w.heap.size < W0.heap.size by have := HS.out; omega)).trans HA1.out)
      have HCf := Lib.hid ((HG5.out.cell (p := ⟨w.heap.size, 2, none⟩) (show w.heap.size < W0.heap.size by have := HS.out; omega)).trans HA2.out)
      have HCk := Lib.hid ((HG5.out.cell (p := ⟨w.heap.size, 3, none⟩) (show w.heap.size < W0.heap.size by have := HS.out; omega)).trans HA3.out)
      refine wp_region_facts (by kernel_rfl) [[], [], [(1, some 33)], [], [(3, some 35)], [(4, some 36)], [(0, some 32), (2, some 34), (5, some 37)], [(0, some 32), (1, some 33), (2, some 34), (3, some 35), (4, some 36), (5, some 37), (6, some 38)]] [(0, some 32), (1, some 33), (2, some 34), (3, some 35), (4, some 36), (5, some 37), (6, some 38), (7, some 9)] (by kernel_rfl) (by kernel_rfl) (by kernel_rfl) (Touch []) (Touch.refl []) (fun _ _ _ h h' => h.trans h' (fun i hi => .inl hi)) [Is (v), Is (Value.pointer (some ⟨w.heap.size, 1, none⟩)), Is (Value.int .i64 a), Is (Value.pointer (some ⟨w.heap.size, 2, none⟩)), Is (Value.int .u32 (f : Int)), Is (Value.agg (bc (fillB f)).toArray), Is (Value.int .i64 1), Is (Value.int .i64 1)] rfl ⟨is_stab _ _, is_stab _ _, is_stab _ _, is_stab _ _, is_stab _ _, is_stab _ _, is_stab _ _, is_stab _ _, trivial⟩ ⟨?o0, ?o1, ?o2, ?o3, ?o4, ?o5, ?o6, ?o7, trivial⟩ ?_
      case o0 =>
        intro vals wq hRq hpq
        simp only [List.getD_cons_zero, List.getD_cons_succ, canonP]
        simp only [Oper.gives]
        go_simp
        exact ⟨is_mk _ _, (Touch.refl []) _⟩
      case o1 =>
        intro vals wq hRq hpq
        simp only [List.getD_cons_zero, List.getD_cons_succ, canonP]
        simp only [Oper.gives]
        go_simp
        exact ⟨is_mk _ _, Touch.refl _ _⟩
      case o2 =>
        intro vals wq hRq hpq
        simp only [factsP, List.getD_cons_zero, List.getD_cons_succ] at hpq
        have f1 := hpq.1
        replace hpq := hpq.2
        clear hpq
        replace f1 : vals 1 = _ := f1
        simp only [List.getD_cons_zero, List.getD_cons_succ, canonP, f1]
        clear f1
        have hcc : wq.cell? ⟨w.heap.size, 1, none⟩ = some (.int .i64 a) := (Touch.cell ((Touch.drew [] _).trans hRq (by simp)) HCb.out (by simp)).trans HCa.out
        simp only [Oper.gives]
        go_simp
        exact ⟨is_mk _ _, Touch.refl _ _⟩
      case o3 =>
        intro vals wq hRq hpq
        simp only [List.getD_cons_zero, List.getD_cons_succ, canonP]
        simp only [Oper.gives]
        go_simp
        exact ⟨is_mk _ _, Touch.refl _ _⟩
      case o4 =>
        intro vals wq hRq hpq
        simp only [factsP, List.getD_cons_zero, List.getD_cons_succ] at hpq
        have f3 := hpq.1
        replace hpq := hpq.2
        clear hpq
        replace f3 : vals 3 = _ := f3
        simp only [List.getD_cons_zero, List.getD_cons_succ, canonP, f3]
        clear f3
        have hcc : wq.cell? ⟨w.heap.size, 2, none⟩ = some (.int .u32 (f : Int)) := (Touch.cell ((Touch.drew [] _).trans hRq (by simp)) HCb.out (by simp)).trans HCf.out
        simp only [Oper.gives]
        go_simp
        exact ⟨is_mk _ _, Touch.refl _ _⟩
      case o5 =>
        intro vals wq hRq hpq
        simp only [factsP, List.getD_cons_zero, List.getD_cons_succ] at hpq
        have f4 := hpq.1
        replace hpq := hpq.2
        clear hpq
        replace f4 : vals 4 = _ := f4
        simp only [List.getD_cons_zero, List.getD_cons_succ, canonP, f4]
        clear f4
        simp only [Oper.gives]
        go_simp
        exact (fill_any f HF.out wq).mono fun e w' ⟨he, hg⟩ => ⟨_, he, is_mk _ _, Touch.of_below hg⟩
      case o6 =>
        intro vals wq hRq hpq
        simp only [factsP, List.getD_cons_zero, List.getD_cons_succ] at hpq
        have f0 := hpq.1
        replace hpq := hpq.2
        have f2 := hpq.1
        replace hpq := hpq.2
        have f5 := hpq.1
        replace hpq := hpq.2
        clear hpq
        replace f0 : vals 0 = _ := f0
        replace f2 : vals 2 = _ := f2
        replace f5 : vals 5 = _ := f5
        simp only [List.getD_cons_zero, List.getD_cons_succ, canonP, f0, f2, f5]
        clear f0 f2 f5
        simp only [Oper.gives]
        go_simp
        exact (write_no (HN.out.later (Touch.below ((Touch.drew [] _).trans hRq (by simp)) (Nat.le_refl _) (by simp))) a (fillB f)).mono fun e w' ⟨he, hg⟩ => ⟨_, he, is_mk _ _, Touch.of_below hg⟩
      case o7 =>
        intro vals wq hRq hpq
        simp only [factsP, List.getD_cons_zero, List.getD_cons_succ] at hpq
        have f0 := hpq.1
        replace hpq := hpq.2
        have f1 := hpq.1
        replace hpq := hpq.2
        have f2 := hpq.1
        replace hpq := hpq.2
        have f3 := hpq.1
        replace hpq := hpq.2
        have f4 := hpq.1
        replace hpq := hpq.2
        have f5 := hpq.1
        replace hpq := hpq.2
        have f6 := hpq.1
        replace hpq := hpq.2
        clear hpq
        replace f0 : vals 0 = _ := f0
        replace f1 : vals 1 = _ := f1
        replace f2 : vals 2 = _ := f2
        replace f3 : vals 3 = _ := f3
        replace f4 : vals 4 = _ := f4
        replace f5 : vals 5 = _ := f5
        replace f6 : vals 6 = _ := f6
        simp only [List.getD_cons_zero, List.getD_cons_succ, canonP, f0, f1, f2, f3, f4, f5, f6]
        clear f0 f1 f2 f3 f4 f5 f6
        simp only [Oper.gives]
        go_simp
        exact ⟨is_mk _ _, (Touch.refl []) _⟩
      intro vals W6 hRW6 hfW6
      simp only [AllFacts] at hfW6
      have g0 := hfW6.1
      replace hfW6 := hfW6.2
      have g1 := hfW6.1
      replace hfW6 := hfW6.2
      have g2 := hfW6.1
      replace hfW6 := hfW6.2
      have g3 := hfW6.1
      replace hfW6 := hfW6.2
      have g4 := hfW6.1
      replace hfW6 := hfW6.2
      have g5 := hfW6.1
      replace hfW6 := hfW6.2
      have g6 := hfW6.1
      replace hfW6 := hfW6.2
      have g7 := hfW6.1
      replace hfW6 := hfW6.2
      clear hfW6
      replace g0 : vals 0 = _ := g0
      replace g1 : vals 1 = _ := g1
      replace g2 : vals 2 = _ := g2
      replace g3 : vals 3 = _ := g3
      replace g4 : vals 4 = _ := g4
      replace g5 : vals 5 = _ := g5
      replace g6 : vals 6 = _ := g6
      replace g7 : vals 7 = _ := g7
      simp only [canonP, Act.put, List.setIfInBounds_toArray, List.set_cons_succ, List.set_cons_zero, g0, g1, g2, g3, g4, g5, g6, g7]
      clear g0 g1 g2 g3 g4 g5 g6 g7
      have htd : Touch [] W5 W6 := (Touch.drew [] _).trans hRW6 (by simp)
      have HN6 := Lib.hid (HN.out.later (htd.below (Nat.le_refl _) (by simp)))
      have HG6 := Lib.hid (Grow.trans HG5.out (htd.below (Nat.le_refl _) (by simp)))
      have HX6 := Lib.hid (show P < W6.heap.size ∧ W6.heap[P]? = some (.cells Z 32 (0, 0)) from ⟨Nat.lt_of_lt_of_le HX5.out.1 htd.size, (htd.block _ HX5.out.1 (by simp)).trans HX5.out.2⟩)
      have hca : W6.cell? ⟨w.heap.size, 1, none⟩ = some (.int .i64 a) := (htd.cell HCb.out (by simp)).trans HCa.out
      have hck : W6.cell? ⟨w.heap.size, 3, none⟩ = some vk := (htd.cell HCb.out (by simp)).trans HCk.out
      clear hRW6 htd HN HG5 HX5 HCa HCf HCk HCb
      go_wp2_with fail
      refine (flush_no HN6.out).mono ?_
      intro e w' hpost
      obtain ⟨he, hw⟩ := hpost
      subst he hw
      go_wp2_with fail
      refine (power_no HN6.out a).mono ?_
      intro e w' hpost
      obtain ⟨⟨xe, he⟩, hw⟩ := hpost
      subst he hw
      go_wp2_with fail
      refine (crash_no HN6.out vk).mono ?_
      intro e w' hpost
      obtain ⟨⟨xe, he⟩, hw⟩ := hpost
      subst he hw
      go_wp2_with fail
      refine wp_load_row 32 _ rfl P rfl 32 Z (0, 0) _ HX6.out.2 Try.underlying32 rfl HSzZ.out ?_
      go_wp2_with fail
      refine (dead_no HN6.out).mono ?_
      intro e w' hpost
      obtain ⟨he, hw⟩ := hpost
      subst he hw
      go_wp2_with fail
      refine (blocks_no HN6.out).mono ?_
      intro e w' hpost
      obtain ⟨he, hw⟩ := hpost
      subst he hw
      go_wp2_with fail
      refine (waiting_no HN6.out).mono ?_
      intro e w' hpost
      obtain ⟨he, hw⟩ := hpost
      subst he hw
      go_wp2_with fail
      refine (acts_no HN6.out).mono ?_
      intro e w' hpost
      obtain ⟨he, hw⟩ := hpost
      subst he hw
      go_wp2_with fail
      refine (image_no HN6.out).mono ?_
      intro e w' hpost
      obtain ⟨he, hw⟩ := hpost
      subst he hw
      go_wp2_with fail
      refine (safe_no HN6.out).mono ?_
      intro e w' hpost
      obtain ⟨he, hw⟩ := hpost
      subst he hw
      go_wp2_with fail
      go_roundw
      case rel => exact ⟨k + 1, by omega, by go_num, HG6⟩
      case measure => simp [intOf]; omega
    · obtain rfl : k = 2 := by omega
      go_wp2_with fail
      refine (awake_ok _).mono ?_
      intro e w' hpost
      obtain ⟨he, hg⟩ := hpost
      subst he
      have HGf := Lib.hid (Grow.trans HG.out (Grow.trans HGr.out hg))
      clear hg
      go_wp2_with fail
      go_ret
      exact ⟨rfl, HGf.out⟩
#print axioms nil_walk
end Go.Proofs.Ytkcbjhdklenlbaa
