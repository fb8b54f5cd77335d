/- Whether blocks lie outside of the journal; the document's blocks, numbers: the walks. -/
import Derived.Test.YtlhhbkpocpnebaaGeo3
import Derived.Test.YtlhhbkpocpnebaaP14
import Derived.StillTail
set_option linter.unusedVariables false
set_option linter.unusedSimpArgs false
namespace Go.Proofs.Ytlhhbkpocpnebaa
open Go.RowKit

/-- does a block lie outside of the journal? -/
def outB (gr sz ni jr b : Int) : Bool := decide (Geo.May gr sz ni jr ∧ 0 ≤ b ∧ b < 2 + jr + gr * sz ∧ (b < 2 ∨ 2 + jr ≤ b))
theorem what_kind (gr sz ni jr b : Int) : ∃ (k : Nat) (p q : Int), Geo.whatOf gr sz ni jr b = .tuple #[.int .u8 (k : Int), .int .i64 p, .int .i64 q] ∧ decide (k ≠ 0 ∧ k ≠ 3) = outB gr sz ni jr b := by
  unfold Geo.whatOf outB
  by_cases h : Geo.May gr sz ni jr ∧ 0 ≤ b ∧ b < Geo.nBlocks gr sz ni jr
  · rw [if_pos h]
    obtain ⟨hm, h0, h1⟩ := h
    have hm' := hm
    unfold Geo.nBlocks at h1
    rw [if_pos hm] at h1
    unfold Geo.May at hm
    refine ⟨_, _, _, rfl, ?_⟩
    apply decide_eq_decide.2
    have key : ((Geo.whatT sz.toNat ni.toNat jr.toNat b.toNat).kind ≠ 0 ∧ (Geo.whatT sz.toNat ni.toNat jr.toNat b.toNat).kind ≠ 3) ↔ (b < 2 ∨ 2 + jr ≤ b) := by
      unfold Geo.whatT
      by_cases a1 : b.toNat < 2
      · rw [if_pos a1]; dsimp only; constructor
        · intro _; left; omega
        · intro _; omega
      · rw [if_neg a1]
        by_cases a2 : b.toNat < 2 + jr.toNat
        · rw [if_pos a2]; dsimp only; constructor
          · intro h; omega
          · intro h; omega
        · rw [if_neg a2]
          have hr : b < 2 ∨ 2 + jr ≤ b := by omega
          split
          · dsimp only
            refine ⟨fun _ => hr, fun _ => by omega⟩
          · split
            · dsimp only
              exact ⟨fun _ => hr, fun _ => by omega⟩
            · dsimp only
              exact ⟨fun _ => hr, fun _ => by omega⟩
    rw [key]
    exact ⟨fun h => ⟨hm', h0, h1, h⟩, fun h => h.2.2.2⟩
  · rw [if_neg h]
    refine ⟨0, 0, 0, rfl, ?_⟩
    apply decide_eq_decide.2
    refine ⟨fun k => absurd rfl k.1, fun k => absurd ⟨k.1, k.2.1, ?_⟩ h⟩
    unfold Geo.nBlocks
    rw [if_pos k.1]
    exact k.2.2.1
set_option maxHeartbeats 2000000 in
theorem outside1_ok (gr sz ni jr b : Int) (w : World) : Calls Try.prog 56 #[Geo.gv gr sz ni jr, .int .i64 b] w fun e w' => e = .returned (.bool (outB gr sz ni jr b)) ∧ Grow w w' := by
  obtain ⟨k, p, q, hv, hk⟩ := what_kind gr sz ni jr b
  have HW := Lib.hid (fun w => by have := Geo.what_any gr sz ni jr b w; rwa [hv] at this)
  have HK := Lib.hid hk
  clear hv hk
  go_enter Try.func56, Try.ntmps56
  go_wp2_with fail
  refine (HW.out _).mono ?_
  intro e w1 hpost
  obtain ⟨he, hg⟩ := hpost
  subst he
  have HG := Lib.hid (Grow.trans (Grow.alloc _ _) hg)
  clear hg HW
  by_cases h0 : k = 0
  · subst h0
    have HO := Lib.hid (show outB gr sz ni jr b = false by rw [← HK.out]; rfl)
    go_wp2_with fail
    go_ret
    exact ⟨by rw [HO.out]; rfl, HG.out⟩
  · have e0 : ((k : Int) != 0) = true := by simp; omega
    by_cases h3 : k = 3
    · subst h3
      have HO := Lib.hid (show outB gr sz ni jr b = false by rw [← HK.out]; rfl)
      go_wp2_with fail
      go_ret
      exact ⟨by rw [HO.out]; rfl, HG.out⟩
    · have e3 : ((k : Int) != 3) = true := by simp; omega
      have HO := Lib.hid (show outB gr sz ni jr b = true by rw [← HK.out]; exact decide_eq_true ⟨h0, h3⟩)
      clear h0 h3
      go_wp2_with fail
      go_ret
      exact ⟨by rw [HO.out]; rfl, HG.out⟩
/-- quernref05.Blocks -/
theorem rblocks_ok (gr sz ni jr : Int) (w : World) : Calls Try.prog 49 #[Geo.gv gr sz ni jr] w fun e w' => e = .returned (.int .i64 (Geo.nBlocks gr sz ni jr)) ∧ Grow w w' := by
  by_cases h : Geo.May gr sz ni jr
  · obtain ⟨a, b, c, d, rfl, rfl, rfl, rfl⟩ := Geo.may_nat h
    have HA := Lib.hid (fun w => Geo.rall_yes a b c d h w)
    have hl : (Geo.allT a b c d).length = 2 + d + a * b := Geo.allT_length a b c d (by have := h; unfold Geo.May at this; omega)
    have HE := Lib.hid (show Geo.nBlocks a b c d = ((2 + d + a * b : Nat) : Int) by unfold Geo.nBlocks; rw [if_pos h]; simp)
    obtain ⟨N, hN⟩ : ∃ N, N = 2 + d + a * b := ⟨_, rfl⟩
    rw [← hN] at hl HE
    have HL := Lib.hid hl
    clear hl hN h
    go_enter Try.func49, Try.ntmps49
    go_wp2_with fail
    refine (HA.out _).mono ?_
    intro e w1 hpost
    obtain ⟨⟨v, he, ht⟩, hg⟩ := hpost
    subst he
    have hv : ∃ p cap, v = .slice p N cap := by
      unfold Geo.Things at ht
      rw [HL.out] at ht
      rcases ht.2 with ⟨hv, h0⟩ | ⟨g, cap, C, hv, _⟩
      · exact ⟨none, 0, by rw [hv, h0]⟩
      · exact ⟨_, _, hv⟩
    obtain ⟨p, cap, rfl⟩ := hv
    have HG := Lib.hid (Grow.trans (Grow.alloc _ _) hg)
    clear hg ht HA
    go_wp2_with fail
    go_ret
    exact ⟨by rw [HE.out]; rfl, HG.out⟩
  · have HA := Lib.hid (fun w => Geo.rall_no gr sz ni jr h w)
    have HE := Lib.hid (show Geo.nBlocks gr sz ni jr = 0 from if_neg h)
    clear h
    go_enter Try.func49, Try.ntmps49
    go_wp2_with fail
    refine (HA.out _).mono ?_
    intro e w1 hpost
    obtain ⟨he, hg⟩ := hpost
    subst he
    have HG := Lib.hid (Grow.trans (Grow.alloc _ _) hg)
    clear hg HA
    go_wp2_with fail
    go_ret
    exact ⟨by rw [HE.out]; rfl, HG.out⟩
#print axioms rblocks_ok
end Go.Proofs.Ytlhhbkpocpnebaa
/- The document's journal head as a block; whether blocks lie outside, as the document says: the walks. -/
set_option linter.unusedVariables false
set_option linter.unusedSimpArgs false
namespace Go.Proofs.Ytlhhbkpocpnebaa
open Go.RowKit

set_option maxHeartbeats 2000000 in
theorem routside_ok (gr sz ni jr b : Int) (w : World) : Calls Try.prog 51 #[Geo.gv gr sz ni jr, .int .i64 b] w fun e w' => e = .returned (.bool (outB gr sz ni jr b)) ∧ Grow w w' := by
  have HB := Lib.hid (rblocks_ok gr sz ni jr)
  obtain ⟨N, hN⟩ : ∃ N, N = Geo.nBlocks gr sz ni jr := ⟨_, rfl⟩
  rw [← hN] at HB
  have HN := Lib.hid hN
  clear hN
  by_cases h : Geo.May gr sz ni jr ∧ 0 ≤ b ∧ b < N
  · obtain ⟨hm, h0, h1⟩ := h
    have hm' := hm
    have hn : N = 2 + jr + gr * sz := by rw [HN.out]; unfold Geo.nBlocks; rw [if_pos hm]
    unfold Geo.May at hm
    have d0 : decide ((0 : Int) ≤ b) = true := by simp; omega
    have d1 : decide (b < N) = true := by simp; omega
    have hw : IntKind.i64.wrap (2 + jr) = 2 + jr := by rw [IntKind.wrap_i64]; omega
    obtain ⟨t2, ht2⟩ : ∃ t, t = decide (b < 2) := ⟨_, rfl⟩
    obtain ⟨t3, ht3⟩ : ∃ t, t = decide (2 + jr ≤ b) := ⟨_, rfl⟩
    have HO := Lib.hid (show outB gr sz ni jr b = (t2 || t3) by
      rw [ht2, ht3]
      unfold outB
      rw [← Bool.decide_or]
      apply decide_eq_decide.2
      exact ⟨fun h => h.2.2.2, fun h => ⟨hm', h0, by omega, h⟩⟩)
    have HT2 := ht2.symm
    have HT3 := ht3.symm
    clear hm hm' hn ht2 ht3 h0 h1
    go_enter Try.func51, Try.ntmps51
    go_wp2_with fail
    refine (HB.out _).mono ?_
    intro e w1 hpost
    obtain ⟨he, hg⟩ := hpost
    subst he
    obtain ⟨c0, c1, c2, c3⟩ := Geo.box_at hg
    have HG := Lib.hid (Grow.trans (Grow.alloc _ _) hg)
    clear hg HB c0 c1 c2
    cases t2 with
    | true =>
      go_wp2_with fail
      go_ret
      exact ⟨by rw [HO.out]; rfl, HG.out⟩
    | false =>
      go_wp2_with fail
      go_ret
      exact ⟨by rw [HO.out]; simp, HG.out⟩
  · have HO := Lib.hid (show outB gr sz ni jr b = false from decide_eq_false (fun k => h ⟨k.1, k.2.1, by rw [HN.out]; unfold Geo.nBlocks; rw [if_pos k.1]; exact k.2.2.1⟩))
    have hd : decide ((0 : Int) ≤ b) = false ∨ (decide ((0 : Int) ≤ b) = true ∧ decide (b < N) = false) := by
      by_cases h0 : 0 ≤ b
      · refine .inr ⟨by simp; omega, decide_eq_false (fun h1 => ?_)⟩
        by_cases hm : Geo.May gr sz ni jr
        · exact h ⟨hm, h0, h1⟩
        · have : N = 0 := by rw [HN.out]; unfold Geo.nBlocks; rw [if_neg hm]
          omega
      · exact .inl (by simp; omega)
    clear h
    go_enter Try.func51, Try.ntmps51
    go_wp2_with fail
    refine (HB.out _).mono ?_
    intro e w1 hpost
    obtain ⟨he, hg⟩ := hpost
    subst he
    have HG := Lib.hid (Grow.trans (Grow.alloc _ _) hg)
    clear hg HB
    rcases hd with d0 | ⟨d0, d1⟩
    · go_wp2_with fail
      go_ret
      exact ⟨by rw [HO.out]; rfl, HG.out⟩
    · go_wp2_with fail
      go_ret
      exact ⟨by rw [HO.out]; rfl, HG.out⟩
theorem rseq_ok (s : Nat) (w : World) : Calls Try.prog 50 #[.int .u32 (s : Int)] w fun e w' => e = .returned (.bool (decide (1 ≤ s ∧ s ≤ 2147483648))) ∧ w' = w := by
  by_cases h1 : 1 ≤ s
  · by_cases h2 : s ≤ 2147483648
    · have d0 : decide ((1 : Int) ≤ (s : Int)) = true := by simp; omega
      have d1 : decide ((s : Int) ≤ 2147483648) = true := by simp; omega
      have HD := Lib.hid (show decide (1 ≤ s ∧ s ≤ 2147483648) = true from decide_eq_true ⟨h1, h2⟩)
      clear h1 h2
      go_enter Try.func50, Try.ntmps50
      go_wp2
      go_ret
      exact ⟨by rw [HD.out]; rfl, rfl⟩
    · have d0 : decide ((1 : Int) ≤ (s : Int)) = true := by simp; omega
      have d1 : decide ((s : Int) ≤ 2147483648) = false := by simp; omega
      have HD := Lib.hid (show decide (1 ≤ s ∧ s ≤ 2147483648) = false from decide_eq_false (fun h => h2 h.2))
      clear h1 h2
      go_enter Try.func50, Try.ntmps50
      go_wp2
      go_ret
      exact ⟨by rw [HD.out]; rfl, rfl⟩
  · have d0 : decide ((1 : Int) ≤ (s : Int)) = false := by simp; omega
    have HD := Lib.hid (show decide (1 ≤ s ∧ s ≤ 2147483648) = false from decide_eq_false (fun h => h1 h.1))
    clear h1
    go_enter Try.func50, Try.ntmps50
    go_wp2
    go_ret
    exact ⟨by rw [HD.out]; rfl, rfl⟩
/-- quernref01.Get32: a block's number: which it is, is not asked -/
theorem rget32_ok {w : World} {g : Nat} {x : Blk} (h : w.heap[g]? = some (.cells (bc x).toArray 29)) (hx : x.length = 256) (a : Nat) (ha : a + 4 ≤ 256) :
    Calls Try.prog 87 #[.slice (some ⟨g, 0, none⟩) 256 256, .int .i64 (a : Int)] w fun e w' => (∃ v, e = .returned (.tuple #[v, .bool true])) ∧ Grow w w' := by
  have hget : ∀ j, j < 256 → ∃ y : Nat, w.cell? ⟨g, j, none⟩ = some (.int .u8 (y : Int)) := fun j hj => by
    obtain ⟨y, hy⟩ : ∃ y, x[j]? = some y := ⟨x[j]'(by omega), by simp⟩
    refine ⟨y, (cell_at h j).trans ?_⟩
    rw [List.getElem?_toArray]
    unfold bc
    rw [List.getElem?_map, hy]
    rfl
  obtain ⟨y0, c0⟩ := hget a (by omega)
  obtain ⟨y1, c1⟩ := hget (a + 1) (by omega)
  obtain ⟨y2, c2⟩ := hget (a + 2) (by omega)
  obtain ⟨y3, c3⟩ := hget (a + 3) (by omega)
  have d0 : decide ((a : Int) < 0) = false := by simp
  have d1 : decide ((252 : Int) < (a : Int)) = false := by simp; omega
  have b0 : (0 : Int) ≤ (a : Int) := by omega
  have b1 : (a : Int) ≤ 252 := by omega
  clear h hget
  go_enter Try.func87, Try.ntmps87
  go_upto_region 3 with (fail)
  go_quiet (fail)
  go_wp2
  go_ret2
  exact ⟨⟨_, rfl⟩, grow_drewN _ _⟩
#print axioms rget32_ok
set_option maxRecDepth 100000 in
set_option maxHeartbeats 4000000 in
theorem rput32_ok {w : World} {g : Nat} {x : Blk} (h : w.heap[g]? = some (.cells (bc x).toArray 29)) (hx : x.length = 256) (a v : Nat) (ha : a + 4 ≤ 256) (hv : v < 4294967296) :
    Calls Try.prog 78 #[.slice (some ⟨g, 0, none⟩) 256 256, .int .i64 (a : Int), .int .u32 (v : Int)] w fun e w' => (∃ u, e = .returned u) ∧ w'.heap[g]? = some (.cells (bc (put4 x a v)).toArray 29) ∧ Touch [g] w w' := by
  have HH := Lib.hid h
  have HG := Lib.hid (rget32_ok h hx a ha)
  have HX := Lib.hid hx
  have HA := Lib.hid ha
  clear h
  go_enter Try.func78, Try.ntmps78
  go_wp2_with fail
  refine HG.out.mono ?_
  intro e w1 hpost
  obtain ⟨⟨u, he⟩, hg⟩ := hpost
  subst he
  have HH1 := Lib.hid ((hg.block _ (Array.getElem?_eq_some_iff.1 HH.out).1).trans HH.out)
  have HG1 := Lib.hid hg
  have hget : ∀ j, j < 256 → ∃ y, w1.cell? ⟨g, j, none⟩ = some y ∧ w1.frozen? ⟨g, j, none⟩ = false := fun j hj => by
    have h1 : j < (bc x).toArray.size := by rw [List.size_toArray, bc_length, HX.out]; exact hj
    exact ⟨(bc x).toArray[j], (cell_at HH1.out j).trans (Array.getElem?_eq_getElem h1), frozen_at HH1.out j⟩
  obtain ⟨y0, c0, f0⟩ := hget a (by omega)
  obtain ⟨y1, c1, f1⟩ := hget (a + 1) (by omega)
  obtain ⟨y2, c2, f2⟩ := hget (a + 2) (by omega)
  obtain ⟨y3, c3, f3⟩ := hget (a + 3) (by omega)
  clear hg hget HG
  go_wp2
  refine wp_loop_rounds 5 ?_
  rw [rounds_succ]
  go_wp2
  rw [rounds_succ]
  go_wp2
  rw [rounds_succ]
  go_wp2
  rw [rounds_succ]
  go_wp2
  rw [rounds_succ]
  go_wp2
  go_ret
  refine ⟨⟨_, rfl⟩, ?_, (Touch.of_below HG1.out).trans ((((Touch.setCell _ (by simp) _).trans (Touch.setCell _ (by simp) _) (fun i hi => .inl hi)).trans (Touch.setCell _ (by simp) _) (fun i hi => .inl hi)).trans (Touch.setCell _ (by simp) _) (fun i hi => .inl hi)) (fun i hi => .inl hi)⟩
  unfold put4
  rw [bc_set, bc_set, bc_set, bc_set]
  have e := heap_set (heap_set (heap_set (heap_set HH1.out a (.int .u8 ((v : Int) % 256))) (a + 1) (.int .u8 ((v : Int) / 256 % 256))) (a + 2) (.int .u8 ((v : Int) / 256 / 256 % 256))) (a + 3) (.int .u8 ((v : Int) / 256 / 256 / 256))
  have hl : (v : Int) / 256 / 256 / 256 % 256 = (v : Int) / 256 / 256 / 256 := by omega
  rw [hl]
  simpa using e
#print axioms rput32_ok
end Go.Proofs.Ytlhhbkpocpnebaa
/- The document's journal head as a block: the walks. -/
set_option linter.unusedVariables false
set_option linter.unusedSimpArgs false
namespace Go.Proofs.Ytlhhbkpocpnebaa
open Go.RowKit

noncomputable def rblock_reg5Code : Code := regById 5 (codesOf (Try.f63.body.getD .skip))
set_option maxRecDepth 100000 in
set_option maxHeartbeats 4000000 in
theorem rblock_reg5 (i A v PB gl : Nat) (x : Blk) (W1 : World) (hi : i < 4) (HA : Hid (A = 4 * i)) (HV : Hid (gl < W1.heap.size ∧ W1.cell? ⟨gl, i, none⟩ = some (.int .u32 (v : Int)))) (HVB : Hid (v < 4294967296)) (HX : Hid (W1.heap[PB]? = some (.cells (bc x).toArray 29))) (HXL : Hid (x.length = 256))
    (s1 s2 s5 s6 s7 s8 s9 s10 s11 s12 s13 s14 s15 s16 s17 s18 s19 : Value) (Q : Exit → Act → World → Prop) (HK : Hid (∀ u11 u12 u13 u14 u15 u16 u17 u18 wz, Touch [PB] W1 wz → wz.heap[PB]? = some (.cells (bc (put4 x A v)).toArray 29) → Q .normal ⟨(.slice (some ⟨gl, 0, none⟩) 4 4 :: s1 :: s2 :: .pointer (some ⟨PB, 0, none⟩) :: .int .i64 (i : Int) :: s5 :: s6 :: s7 :: s8 :: s9 :: s10 :: u11 :: u12 :: u13 :: u14 :: u15 :: u16 :: u17 :: u18 :: s19 :: []).toArray, []⟩ (wz))) : rblock_reg5Code.wp Try.prog Q ⟨(.slice (some ⟨gl, 0, none⟩) 4 4 :: s1 :: s2 :: .pointer (some ⟨PB, 0, none⟩) :: .int .i64 (i : Int) :: s5 :: s6 :: s7 :: s8 :: s9 :: s10 :: s11 :: s12 :: s13 :: s14 :: s15 :: s16 :: s17 :: s18 :: s19 :: []).toArray, []⟩ W1 := by
  have b0 : (0 : Int) ≤ (i : Int) := by omega
  have b1 : (i : Int) < 4 := by omega
  have hwa : IntKind.i64.wrap (4 * (i : Int)) = (A : Int) := by rw [IntKind.wrap_i64, HA.out]; omega
  conv => arg 2; whnf
  refine wp_region_facts_tail 7 (by kernel_rfl) (by kernel_rfl) [[], [], [(1, some 12)], [], [], [(3, some 14), (4, some 15)], [(5, some 16)]] [(0, some 11), (1, some 12), (2, some 13), (3, some 14), (4, some 15), (5, some 16), (6, some 17)] (by kernel_rfl) (by kernel_rfl) (by kernel_rfl) (Touch []) (Touch.refl []) (fun _ _ _ h h' => h.trans h' (fun i hi => .inl hi)) [Is (Value.slice (some ⟨PB, 0, none⟩) 256 256), Is (Value.int .i64 (i : Int)), Is (Value.int .i64 (A : Int)), Is (Value.slice (some ⟨gl, 0, none⟩) 4 4), Is (Value.int .i64 (i : Int)), Is (Value.pointer (some ⟨gl, i, none⟩)), Is (Value.int .u32 (v : Int))] rfl ⟨is_stab _ _, is_stab _ _, is_stab _ _, is_stab _ _, is_stab _ _, is_stab _ _, is_stab _ _, trivial⟩ ⟨?o0, ?o1, ?o2, ?o3, ?o4, ?o5, ?o6, trivial⟩ ?_
  case o0 =>
    intro vals wq hRq hpq
    simp only [List.getD_cons_zero, List.getD_cons_succ, canonP]
    simp only [Oper.gives]
    go_simp
    exact ⟨is_mk _ _, Touch.refl _ _⟩
  case o1 =>
    intro vals wq hRq hpq
    simp only [List.getD_cons_zero, List.getD_cons_succ, canonP]
    simp only [Oper.gives]
    go_simp
    exact ⟨is_mk _ _, (Touch.refl []) _⟩
  case o2 =>
    intro vals wq hRq hpq
    simp only [factsP, List.getD_cons_zero, List.getD_cons_succ] at hpq
    have f1 := hpq.1
    replace hpq := hpq.2
    clear hpq
    replace f1 : vals 1 = _ := f1
    simp only [List.getD_cons_zero, List.getD_cons_succ, canonP, f1]
    clear f1
    simp only [Oper.gives]
    go_simp
    exact ⟨is_mk _ _, (Touch.refl []) _⟩
  case o3 =>
    intro vals wq hRq hpq
    simp only [List.getD_cons_zero, List.getD_cons_succ, canonP]
    simp only [Oper.gives]
    go_simp
    exact ⟨is_mk _ _, (Touch.refl []) _⟩
  case o4 =>
    intro vals wq hRq hpq
    simp only [List.getD_cons_zero, List.getD_cons_succ, canonP]
    simp only [Oper.gives]
    go_simp
    exact ⟨is_mk _ _, (Touch.refl []) _⟩
  case o5 =>
    intro vals wq hRq hpq
    simp only [factsP, List.getD_cons_zero, List.getD_cons_succ] at hpq
    have f3 := hpq.1
    replace hpq := hpq.2
    have f4 := hpq.1
    replace hpq := hpq.2
    clear hpq
    replace f3 : vals 3 = _ := f3
    replace f4 : vals 4 = _ := f4
    simp only [List.getD_cons_zero, List.getD_cons_succ, canonP, f3, f4]
    clear f3 f4
    simp only [Oper.gives]
    go_simp
    exact ⟨is_mk _ _, (Touch.refl []) _⟩
  case o6 =>
    intro vals wq hRq hpq
    simp only [factsP, List.getD_cons_zero, List.getD_cons_succ] at hpq
    have f5 := hpq.1
    replace hpq := hpq.2
    clear hpq
    replace f5 : vals 5 = _ := f5
    simp only [List.getD_cons_zero, List.getD_cons_succ, canonP, f5]
    clear f5
    have hcc : wq.cell? ⟨gl, i, none⟩ = some (.int .u32 (v : Int)) := (Touch.cell ((Touch.drew [] W1).trans hRq (by simp)) (a := ⟨gl, i, none⟩) HV.out.1 (by simp)).trans HV.out.2
    simp only [Oper.gives]
    go_simp
    exact ⟨is_mk _ _, Touch.refl _ _⟩
  intro vals wz hRwz hfwz
  simp only [AllFacts] at hfwz
  have g0 := hfwz.1
  replace hfwz := hfwz.2
  have g1 := hfwz.1
  replace hfwz := hfwz.2
  have g2 := hfwz.1
  replace hfwz := hfwz.2
  have g3 := hfwz.1
  replace hfwz := hfwz.2
  have g4 := hfwz.1
  replace hfwz := hfwz.2
  have g5 := hfwz.1
  replace hfwz := hfwz.2
  have g6 := hfwz.1
  replace hfwz := hfwz.2
  clear hfwz
  replace g0 : vals 0 = _ := g0
  replace g1 : vals 1 = _ := g1
  replace g2 : vals 2 = _ := g2
  replace g3 : vals 3 = _ := g3
  replace g4 : vals 4 = _ := g4
  replace g5 : vals 5 = _ := g5
  replace g6 : vals 6 = _ := g6
  simp only [List.drop_succ_cons, List.drop_zero]
  simp only [canonP, Act.put, List.setIfInBounds_toArray, List.set_cons_succ, List.set_cons_zero, g0, g1, g2, g3, g4, g5, g6]
  clear g0 g1 g2 g3 g4 g5 g6
  have HT2 := Lib.hid ((Touch.drew [] W1).trans hRwz (by simp))
  have HX2 := Lib.hid ((HT2.out.block PB (Array.getElem?_eq_some_iff.1 HX.out).1 (by simp)).trans HX.out)
  clear hRwz hwa
  go_wp2_with fail
  refine (rput32_ok HX2.out HXL.out A v (by have := HA.out; omega) HVB.out).mono ?_
  intro e w2 hpost
  obtain ⟨⟨u, he⟩, hh, ht⟩ := hpost
  subst he
  have HH := Lib.hid hh
  have HT := Lib.hid ((HT2.out.mono (S' := [PB]) (by simp)).trans ht (fun i hi => .inl hi))
  clear hh ht
  go_wp2_with fail
  exact HK.out _ _ _ _ _ _ _ _ _ HT.out HH.out
#print axioms rblock_reg5

/-- the first numbers of a block -/
def putsB (l : List Nat) : Nat → Blk
  | 0 => zeroB
  | i + 1 => put4 (putsB l i) (4 * i) (l.getD i 0)
theorem putsB_length (l : List Nat) : ∀ i, (putsB l i).length = 256
  | 0 => zeroB_len
  | i + 1 => by unfold putsB; rw [put4_length]; exact putsB_length l i
set_option maxRecDepth 100000 in
set_option maxHeartbeats 4000000 in
theorem rblock_ok {w : World} {gl : Nat} (a b c d : Nat) (h : w.heap[gl]? = some (.cells #[.int .u32 (a : Int), .int .u32 (b : Int), .int .u32 (c : Int), .int .u32 (d : Int)] 44)) (ha : a < 4294967296) (hb : b < 4294967296) (hc : c < 4294967296) (hd : d < 4294967296) :
    Calls Try.prog 63 #[.slice (some ⟨gl, 0, none⟩) 4 4] w fun e w' => e = .returned (.agg (bc (put4 (put4 (put4 (put4 zeroB 0 a) 4 b) 8 c) 12 d)).toArray) ∧ Grow w w' := by
  have HL := Lib.hid h
  have hz := zero32
  have HB0 := Lib.hid (show ((w.alloc (.cells (bc zeroB).toArray 29)).alloc (.cells (bc zeroB).toArray 29)).heap[w.heap.size + 1]? = some (.cells (bc zeroB).toArray 29) from heap_two w _ _)
  have HO0 := Lib.hid (show ((w.alloc (.cells (bc zeroB).toArray 29)).alloc (.cells (bc zeroB).toArray 29)).heap[w.heap.size]? = some (.cells (bc zeroB).toArray 29) from heap_one w _ _)
  have HG0 := Lib.hid (Grow.trans (Grow.alloc w (.cells (bc zeroB).toArray 29)) (Grow.alloc _ (.cells (bc zeroB).toArray 29)))
  obtain ⟨Z, hZ⟩ : ∃ Z, Z = (bc zeroB).toArray := ⟨_, rfl⟩
  have HZE := Lib.hid hZ
  rw [← hZ] at hz HB0 HO0 HG0
  clear hZ h
  go_enter Try.func63, Try.ntmps63
  go_upto_region 2 with (fail)
  obtain ⟨w0, hw0⟩ : ∃ w0, w0 = ((w.alloc (.cells Z 29)).alloc (.cells Z 29)) := ⟨_, rfl⟩
  rw [← hw0] at HB0 HO0 HG0 ⊢
  clear hw0
  rw [HZE.out] at HB0
  obtain ⟨PB, hPB⟩ : ∃ P, P = w.heap.size + 1 := ⟨_, rfl⟩
  rw [← hPB] at HB0 ⊢
  have HNE := Lib.hid (show gl < w.heap.size from (Array.getElem?_eq_some_iff.1 HL.out).1)
  have HPB := Lib.hid hPB
  clear hPB
  have HBD := Lib.hid (show ∀ i, ([a, b, c, d] : List Nat).getD i 0 < 4294967296 from fun i => by
    match i with
    | 0 => exact ha
    | 1 => exact hb
    | 2 => exact hc
    | 3 => exact hd
    | (k + 4) => show 0 < _; omega)
  have HCL := Lib.hid (show ∀ i, i < 4 → (#[.int .u32 (a : Int), .int .u32 (b : Int), .int .u32 (c : Int), .int .u32 (d : Int)] : Array Value)[i]? = some (.int .u32 (([a, b, c, d].getD i 0 : Nat) : Int)) from fun i hi => by
    match i with
    | 0 => rfl
    | 1 => rfl
    | 2 => rfl
    | 3 => rfl
    | (k + 4) => omega)
  clear ha hb hc hd
  generalize hln : ([a, b, c, d] : List Nat) = l at *
  have HLN := Lib.hid hln
  clear hln
  go_wp2
  go_loopw [4] (fun t4 wr => ∃ i : Nat, t4 = .int .i64 (i : Int) ∧ i ≤ 4 ∧ Hid (Grow w wr ∧ wr.heap[PB]? = some (.cells (bc (putsB l i)).toArray 29) ∧ wr.heap[w.heap.size]? = some (.cells Z 29))) (fun t4 _ => 4 - (intOf t4).toNat)
  case atStart => exact ⟨0, by go_num, by omega, Lib.hid ⟨HG0.out, HB0.out, HO0.out⟩⟩
  case round =>
    obtain ⟨i, rfl, hi4, HI⟩ := hrel
    by_cases hi : i < 4
    · have HV := Lib.hid (show gl < wr.heap.size ∧ wr.cell? ⟨gl, i, none⟩ = some (.int .u32 ((l.getD i 0 : Nat) : Int)) from ⟨Nat.lt_of_lt_of_le HNE.out HI.out.1.size, (HI.out.1.cell (p := ⟨gl, i, none⟩) HNE.out).trans ((cell_at HL.out i).trans (HCL.out i hi))⟩)
      have HVB := Lib.hid (HBD.out i)
      have HX := Lib.hid HI.out.2.1
      have HXL := Lib.hid (putsB_length l i)
      go_upto_region 5 with (fail)
      refine rblock_reg5 i (4 * i) (l.getD i 0) PB gl (putsB l i) wr hi (Lib.hid rfl) HV HVB HX HXL _ _ _ _ _ _ _ _ _ _ _ _ _ _ _ _ _ _ (Lib.hid ?hrblockreg51)
      intro u11 u12 u13 u14 u15 u16 u17 u18 W2 hRW2 hh2
      have HI2 := Lib.hid (show Grow w W2 ∧ W2.heap[PB]? = some (.cells (bc (putsB l (i + 1))).toArray 29) ∧ W2.heap[w.heap.size]? = some (.cells Z 29) from ⟨Below.trans HI.out.1 (hRW2.below HI.out.1.size (fun k hk => by rw [List.mem_singleton.1 hk, HPB.out]; omega)), hh2, (hRW2.block _ (Array.getElem?_eq_some_iff.1 HI.out.2.2).1 (by simp [HPB.out])).trans HI.out.2.2⟩)
      clear hRW2 hh2
      go_wp2
      go_roundw
      case rel => exact ⟨i + 1, by go_num, by omega, HI2⟩
      case measure => simp [intOf]; omega
    · obtain rfl : i = 4 := by omega
      obtain ⟨R, hR⟩ : ∃ R, R = (bc (putsB l 4)).toArray := ⟨_, rfl⟩
      have HR := Lib.hid (show R = (bc (put4 (put4 (put4 (put4 zeroB 0 a) 4 b) 8 c) 12 d)).toArray by rw [hR, ← HLN.out]; rfl)
      have HRs := Lib.hid (show R.size = 256 by rw [hR, List.size_toArray, bc_length]; exact putsB_length l 4)
      have HR1 := Lib.hid (show R.all (·.oneCell') = true by rw [hR]; exact all_oneCell_toArray (bc_one _))
      have HB5 := Lib.hid (show wr.heap[PB]? = some (.cells R 29) by rw [hR]; exact HI.out.2.1)
      have HO5 := Lib.hid HI.out.2.2
      have HG5 := Lib.hid HI.out.1
      have HZ := Lib.hid (show Z.size = 256 by rw [HZE.out]; exact zero_size)
      clear hR HI
      go_wp2_with (first | (refine wpList_load_row rfl _ _ rfl PB rfl 29 R (0, 0) _ HB5.out Try.underlying29 rfl (by rw [HRs.out]; exact size32) ?_) | (refine wpList_store_row rfl _ _ _ rfl w.heap.size R rfl rfl 29 Z HO5.out (by rw [HRs.out]; exact size32) (by rw [HRs.out]; exact HZ.out) HR1.out ?_))
      refine bodyPost_ret (results_cell_row rfl _ _ w.heap.size 29 R (0, 0) _ rfl (setRow_heap _ _ _ _ _ _ HO5.out) Try.underlying29 rfl (by rw [HRs.out]; exact size32)) rfl ⟨by rw [HR.out], below_setRow HG5.out (Nat.le_refl _) _⟩
#print axioms rblock_ok
set_option maxRecDepth 100000 in
set_option maxHeartbeats 4000000 in
theorem rhead_ok (s : Nat) (h1 : 1 ≤ s) (h2 : s ≤ 2147483648) (w : World) : Calls Try.prog 52 #[.agg #[.int .u32 (s : Int), .int .i64 0]] w fun e w' => e = .returned (.tuple #[.agg (bc (beginB 4 s 0)).toArray, .int .i64 0]) ∧ Grow w w' := by
  have hz := zero32
  have HZ := Lib.hid zero_size
  have HO0 := Lib.hid (show ((w.alloc (.cells #[.int .u32 (s : Int), .int .i64 0] 83)).alloc (.cells (bc zeroB).toArray 29)).heap[w.heap.size + 1]? = some (.cells (bc zeroB).toArray 29) from heap_two w _ _)
  have HA0 := Lib.hid (show ((w.alloc (.cells #[.int .u32 (s : Int), .int .i64 0] 83)).alloc (.cells (bc zeroB).toArray 29)).heap[w.heap.size]? = some (.cells #[.int .u32 (s : Int), .int .i64 0] 83) from heap_one w _ _)
  have HG0 := Lib.hid (Grow.trans (Grow.alloc w (.cells #[.int .u32 (s : Int), .int .i64 0] 83)) (Grow.alloc _ (.cells (bc zeroB).toArray 29)))
  obtain ⟨Z, hZ⟩ : ∃ Z, Z = (bc zeroB).toArray := ⟨_, rfl⟩
  rw [← hZ] at hz HO0 HG0 HZ HA0
  have HSQ := Lib.hid (fun w => by have := rseq_ok s w; rwa [decide_eq_true ⟨h1, h2⟩] at this)
  have hs : s < 4294967296 := by omega
  clear hZ h1 h2
  go_enter Try.func52, Try.ntmps52
  go_wp2_with fail
  obtain ⟨w0, hw0⟩ : ∃ w0, w0 = (w.alloc (.cells #[.int .u32 (s : Int), .int .i64 0] 83)).alloc (.cells Z 29) := ⟨_, rfl⟩
  rw [← hw0] at HO0 HA0 HG0 ⊢
  clear hw0
  have hc0 : w0.cell? ⟨w.heap.size, 0, none⟩ = some (.int .u32 (s : Int)) := cell_at HA0.out 0
  have hc1 : w0.cell? ⟨w.heap.size, 1, none⟩ = some (.int .i64 0) := cell_at HA0.out 1
  refine (HSQ.out _).mono ?_
  rintro e w' ⟨rfl, rfl⟩
  go_wp2_with fail
  refine (rblock_ok 1280199249 4 s 0 (heap_alloc_last _ _) (by omega) (by omega) hs (by omega)).mono ?_
  intro e w2 hpost
  obtain ⟨he, hg0⟩ := hpost
  subst he
  have hg := Grow.trans (Grow.alloc w' _) hg0
  have HO2 := Lib.hid ((hg.block _ (Array.getElem?_eq_some_iff.1 HO0.out).1).trans HO0.out)
  have HG2 := Lib.hid (Grow.trans HG0.out hg)
  have HL := Lib.hid (beginB_length 4 s 0)
  obtain ⟨R, hR⟩ : ∃ R, R = (bc (beginB 4 s 0)).toArray := ⟨_, rfl⟩
  have HR := Lib.hid hR
  have HRs := Lib.hid (show R.size = 256 by rw [hR, List.size_toArray, bc_length, HL.out])
  have HR1 := Lib.hid (show R.all (·.oneCell') = true by rw [hR]; exact all_oneCell_toArray (bc_one _))
  rw [show put4 (put4 (put4 (put4 zeroB 0 1280199249) 4 4) 8 s) 12 0 = beginB 4 s 0 from rfl, ← hR]
  clear hR hg hg0 hc0 hc1
  go_wp2_with (first | (refine wpList_store_row rfl _ _ _ rfl (w.heap.size + 1) R rfl rfl 29 Z HO2.out (by rw [HRs.out]; exact size32) (by rw [HRs.out]; exact HZ.out) HR1.out ?_))
  refine bodyPost_ret (results_row_tmp rfl _ _ (w.heap.size + 1) 29 R (0, 0) _ _ rfl (setRow_heap _ _ _ _ _ _ HO2.out) Try.underlying29 rfl (by rw [HRs.out]; exact size32) rfl) rfl ⟨by rw [HR.out]; rfl, below_setRow HG2.out (by omega) _⟩
#print axioms rhead_ok
end Go.Proofs.Ytlhhbkpocpnebaa
