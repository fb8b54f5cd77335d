/- added: its region over letters; what it does, plainly. -/
import Derived.Test.YtokehhegomiciaaH18
set_option linter.unusedVariables false
set_option linter.unusedSimpArgs false
namespace Go.Proofs.Ytokehhegomiciaa
open Go.RowKit Go.Maps

noncomputable def added_reg8Code : Code := regById 8 (codesOf (Try.f9.body.getD .skip))
set_option maxRecDepth 100000 in
set_option maxHeartbeats 4000000 in
theorem added_reg8 (B ga oa n cap k seq nc cc nr cr : Nat) (ac ar : Option Addr) (start count : Int) (g : G4) (s : CS) (T : List Nat) (va : Value) (xs : List CV) (cs : List Cp) (rs : List Int) (b : Bool) (W1 : World) (HK0 : Hid (k < n)) (HGA : Hid (ga < W1.heap.size)) (HQ1 : Hid (W1.cell? ⟨ga, oa + k * 6 + 1, none⟩ = some (.int .u32 (seq : Int)))) (HQ2 : Hid (W1.cell? ⟨ga, oa + k * 6 + 1 + 1, none⟩ = some (.slice ac nc cc))) (HQ3 : Hid (W1.cell? ⟨ga, oa + k * 6 + 1 + 2, none⟩ = some (.slice ar nr cr))) (HQ4 : Hid (W1.cell? ⟨ga, oa + k * 6 + 4, none⟩ = some (.int .i64 start))) (HQ5 : Hid (W1.cell? ⟨ga, oa + k * 6 + 5, none⟩ = some (.int .i64 count))) (HADD : Hid (∀ w, Grow W1 w → Calls Try.prog 12 #[.pointer (some ⟨B, 0, none⟩), .agg #[.int .u32 (seq : Int), .slice ac nc cc, .slice ar nr cr], .int .i64 start, .int .i64 count] w (AddPost B g (addS b s seq cs rs start count) (addE b) T w)))
    (s0 s2 s3 s4 s5 s6 s8 s9 s11 s12 s13 s14 s15 s16 s17 s18 s19 s20 s21 s22 s23 s24 s25 s26 s27 s28 s29 s30 s31 s32 s33 s34 s35 s36 s37 s38 s39 s40 s41 s42 s43 s44 s45 s46 s47 s48 s49 s50 s51 s52 s53 s54 : Value) (Q : Exit → Act → World → Prop) (HK : Hid (∀ u28 u29 u30 u31 u32 u33 u34 u35 u36 u37 u38 u39 u40 u41 u42 u43 u44 wz, ∀ T' va' xs', LSt wz B g (addS b s seq cs rs start count) T' va' xs' → (∀ k ∈ T', k ∈ T ∨ W1.heap.size ≤ k) → (∀ k ∈ T', k < wz.heap.size) → Touch T W1 wz → Q .normal ⟨(s0 :: .slice (some ⟨ga, oa, none⟩) n cap :: s2 :: s3 :: s4 :: s5 :: s6 :: .pointer (some ⟨B, 0, none⟩) :: s8 :: s9 :: .int .i64 (k : Int) :: s11 :: s12 :: s13 :: s14 :: s15 :: s16 :: s17 :: s18 :: s19 :: s20 :: s21 :: s22 :: s23 :: s24 :: s25 :: s26 :: s27 :: u28 :: u29 :: u30 :: u31 :: u32 :: u33 :: u34 :: u35 :: u36 :: u37 :: u38 :: u39 :: u40 :: u41 :: u42 :: u43 :: u44 :: .bool b :: s46 :: s47 :: s48 :: s49 :: s50 :: s51 :: s52 :: s53 :: s54 :: []).toArray, []⟩ (wz))) : added_reg8Code.wp Try.prog Q ⟨(s0 :: .slice (some ⟨ga, oa, none⟩) n cap :: s2 :: s3 :: s4 :: s5 :: s6 :: .pointer (some ⟨B, 0, none⟩) :: s8 :: s9 :: .int .i64 (k : Int) :: s11 :: s12 :: s13 :: s14 :: s15 :: s16 :: s17 :: s18 :: s19 :: s20 :: s21 :: s22 :: s23 :: s24 :: s25 :: s26 :: s27 :: s28 :: s29 :: s30 :: s31 :: s32 :: s33 :: s34 :: s35 :: s36 :: s37 :: s38 :: s39 :: s40 :: s41 :: s42 :: s43 :: s44 :: s45 :: s46 :: s47 :: s48 :: s49 :: s50 :: s51 :: s52 :: s53 :: s54 :: []).toArray, []⟩ W1 := by
  conv => arg 2; whnf
  refine wp_region_facts_tail 16 (by kernel_rfl) (by kernel_rfl) [[], [], [], [(1, some 29), (2, some 30)], [(3, some 31)], [(4, some 32)], [], [], [(6, some 34), (7, some 35)], [(8, some 36)], [(9, some 37)], [], [], [(11, some 39), (12, some 40)], [(13, some 41)], [(14, some 42)]] [(0, some 28), (1, some 29), (2, some 30), (3, some 31), (4, some 32), (5, some 33), (6, some 34), (7, some 35), (8, some 36), (9, some 37), (10, some 38), (11, some 39), (12, some 40), (13, some 41), (14, some 42), (15, some 43)] (by kernel_rfl) (by kernel_rfl) (by kernel_rfl) (Touch []) (Touch.refl []) (fun _ _ _ h h' => h.trans h' (fun i hi => .inl hi)) [Is (Value.pointer (some ⟨B, 0, none⟩)), Is (Value.slice (some ⟨ga, oa, none⟩) n cap), Is (Value.int .i64 (k : Int)), Is (Value.pointer (some ⟨ga, oa + k * 6, none⟩)), Is (Value.pointer (some ⟨ga, oa + k * 6 + 1, none⟩)), Is (Value.agg #[.int .u32 (seq : Int), .slice ac nc cc, .slice ar nr cr]), Is (Value.slice (some ⟨ga, oa, none⟩) n cap), Is (Value.int .i64 (k : Int)), Is (Value.pointer (some ⟨ga, oa + k * 6, none⟩)), Is (Value.pointer (some ⟨ga, oa + k * 6 + 4, none⟩)), Is (Value.int .i64 start), Is (Value.slice (some ⟨ga, oa, none⟩) n cap), Is (Value.int .i64 (k : Int)), Is (Value.pointer (some ⟨ga, oa + k * 6, none⟩)), Is (Value.pointer (some ⟨ga, oa + k * 6 + 5, none⟩)), Is (Value.int .i64 count)] rfl ⟨is_stab _ _, is_stab _ _, is_stab _ _, is_stab _ _, is_stab _ _, is_stab _ _, is_stab _ _, is_stab _ _, is_stab _ _, is_stab _ _, is_stab _ _, is_stab _ _, is_stab _ _, is_stab _ _, is_stab _ _, is_stab _ _, trivial⟩ ⟨?o0, ?o1, ?o2, ?o3, ?o4, ?o5, ?o6, ?o7, ?o8, ?o9, ?o10, ?o11, ?o12, ?o13, ?o14, ?o15, trivial⟩ ?_
  case o0 =>
    intro vals wq hRq hpq
    simp only [List.getD_cons_zero, List.getD_cons_succ, canonP]
    simp only [Oper.gives]
    go_simp
    exact ⟨is_mk _ _, (Touch.refl []) _⟩
  case o1 =>
    intro vals wq hRq hpq
    simp only [List.getD_cons_zero, List.getD_cons_succ, canonP]
    simp only [Oper.gives]
    go_simp
    exact ⟨is_mk _ _, (Touch.refl []) _⟩
  case o2 =>
    intro vals wq hRq hpq
    simp only [List.getD_cons_zero, List.getD_cons_succ, canonP]
    simp only [Oper.gives]
    go_simp
    exact ⟨is_mk _ _, (Touch.refl []) _⟩
  case o3 =>
    intro vals wq hRq hpq
    simp only [factsP, List.getD_cons_zero, List.getD_cons_succ] at hpq
    have f1 := hpq.1
    replace hpq := hpq.2
    have f2 := hpq.1
    replace hpq := hpq.2
    clear hpq
    replace f1 : vals 1 = _ := f1
    replace f2 : vals 2 = _ := f2
    simp only [List.getD_cons_zero, List.getD_cons_succ, canonP, f1, f2]
    clear f1 f2
    have b0 : (0 : Int) ≤ (k : Int) := by omega
    have hk := HK0.out
    have b1 : (k : Int) < (n : Int) := by omega
    simp only [Oper.gives]
    go_simp
    exact ⟨is_mk _ _, Touch.refl _ _⟩
  case o4 =>
    intro vals wq hRq hpq
    simp only [factsP, List.getD_cons_zero, List.getD_cons_succ] at hpq
    have f3 := hpq.1
    replace hpq := hpq.2
    clear hpq
    replace f3 : vals 3 = _ := f3
    simp only [List.getD_cons_zero, List.getD_cons_succ, canonP, f3]
    clear f3
    simp only [Oper.gives]
    go_simp
    exact ⟨is_mk _ _, (Touch.refl []) _⟩
  case o5 =>
    intro vals wq hRq hpq
    simp only [factsP, List.getD_cons_zero, List.getD_cons_succ] at hpq
    have f4 := hpq.1
    replace hpq := hpq.2
    clear hpq
    replace f4 : vals 4 = _ := f4
    simp only [List.getD_cons_zero, List.getD_cons_succ, canonP, f4]
    clear f4
    have hq1 : wq.cell? ⟨ga, oa + k * 6 + 1, none⟩ = some (.int .u32 (seq : Int)) := (Touch.cell ((Touch.drew [] W1).trans hRq (by simp)) (a := ⟨ga, oa + k * 6 + 1, none⟩) HGA.out (by simp)).trans HQ1.out
    have hq2 : wq.cell? ⟨ga, oa + k * 6 + 1 + 1, none⟩ = some (.slice ac nc cc) := (Touch.cell ((Touch.drew [] W1).trans hRq (by simp)) (a := ⟨ga, oa + k * 6 + 1 + 1, none⟩) HGA.out (by simp)).trans HQ2.out
    have hq3 : wq.cell? ⟨ga, oa + k * 6 + 1 + 2, none⟩ = some (.slice ar nr cr) := (Touch.cell ((Touch.drew [] W1).trans hRq (by simp)) (a := ⟨ga, oa + k * 6 + 1 + 2, none⟩) HGA.out (by simp)).trans HQ3.out
    simp only [Oper.gives]
    go_simp
    exact ⟨is_mk _ _, Touch.refl _ _⟩
  case o6 =>
    intro vals wq hRq hpq
    simp only [List.getD_cons_zero, List.getD_cons_succ, canonP]
    simp only [Oper.gives]
    go_simp
    exact ⟨is_mk _ _, (Touch.refl []) _⟩
  case o7 =>
    intro vals wq hRq hpq
    simp only [List.getD_cons_zero, List.getD_cons_succ, canonP]
    simp only [Oper.gives]
    go_simp
    exact ⟨is_mk _ _, (Touch.refl []) _⟩
  case o8 =>
    intro vals wq hRq hpq
    simp only [factsP, List.getD_cons_zero, List.getD_cons_succ] at hpq
    have f6 := hpq.1
    replace hpq := hpq.2
    have f7 := hpq.1
    replace hpq := hpq.2
    clear hpq
    replace f6 : vals 6 = _ := f6
    replace f7 : vals 7 = _ := f7
    simp only [List.getD_cons_zero, List.getD_cons_succ, canonP, f6, f7]
    clear f6 f7
    have b0 : (0 : Int) ≤ (k : Int) := by omega
    have hk := HK0.out
    have b1 : (k : Int) < (n : Int) := by omega
    simp only [Oper.gives]
    go_simp
    exact ⟨is_mk _ _, Touch.refl _ _⟩
  case o9 =>
    intro vals wq hRq hpq
    simp only [factsP, List.getD_cons_zero, List.getD_cons_succ] at hpq
    have f8 := hpq.1
    replace hpq := hpq.2
    clear hpq
    replace f8 : vals 8 = _ := f8
    simp only [List.getD_cons_zero, List.getD_cons_succ, canonP, f8]
    clear f8
    simp only [Oper.gives]
    go_simp
    exact ⟨is_mk _ _, (Touch.refl []) _⟩
  case o10 =>
    intro vals wq hRq hpq
    simp only [factsP, List.getD_cons_zero, List.getD_cons_succ] at hpq
    have f9 := hpq.1
    replace hpq := hpq.2
    clear hpq
    replace f9 : vals 9 = _ := f9
    simp only [List.getD_cons_zero, List.getD_cons_succ, canonP, f9]
    clear f9
    have hq4 : wq.cell? ⟨ga, oa + k * 6 + 4, none⟩ = some (.int .i64 start) := (Touch.cell ((Touch.drew [] W1).trans hRq (by simp)) (a := ⟨ga, oa + k * 6 + 4, none⟩) HGA.out (by simp)).trans HQ4.out
    simp only [Oper.gives]
    go_simp
    exact ⟨is_mk _ _, Touch.refl _ _⟩
  case o11 =>
    intro vals wq hRq hpq
    simp only [List.getD_cons_zero, List.getD_cons_succ, canonP]
    simp only [Oper.gives]
    go_simp
    exact ⟨is_mk _ _, (Touch.refl []) _⟩
  case o12 =>
    intro vals wq hRq hpq
    simp only [List.getD_cons_zero, List.getD_cons_succ, canonP]
    simp only [Oper.gives]
    go_simp
    exact ⟨is_mk _ _, (Touch.refl []) _⟩
  case o13 =>
    intro vals wq hRq hpq
    simp only [factsP, List.getD_cons_zero, List.getD_cons_succ] at hpq
    have f11 := hpq.1
    replace hpq := hpq.2
    have f12 := hpq.1
    replace hpq := hpq.2
    clear hpq
    replace f11 : vals 11 = _ := f11
    replace f12 : vals 12 = _ := f12
    simp only [List.getD_cons_zero, List.getD_cons_succ, canonP, f11, f12]
    clear f11 f12
    have b0 : (0 : Int) ≤ (k : Int) := by omega
    have hk := HK0.out
    have b1 : (k : Int) < (n : Int) := by omega
    simp only [Oper.gives]
    go_simp
    exact ⟨is_mk _ _, Touch.refl _ _⟩
  case o14 =>
    intro vals wq hRq hpq
    simp only [factsP, List.getD_cons_zero, List.getD_cons_succ] at hpq
    have f13 := hpq.1
    replace hpq := hpq.2
    clear hpq
    replace f13 : vals 13 = _ := f13
    simp only [List.getD_cons_zero, List.getD_cons_succ, canonP, f13]
    clear f13
    simp only [Oper.gives]
    go_simp
    exact ⟨is_mk _ _, (Touch.refl []) _⟩
  case o15 =>
    intro vals wq hRq hpq
    simp only [factsP, List.getD_cons_zero, List.getD_cons_succ] at hpq
    have f14 := hpq.1
    replace hpq := hpq.2
    clear hpq
    replace f14 : vals 14 = _ := f14
    simp only [List.getD_cons_zero, List.getD_cons_succ, canonP, f14]
    clear f14
    have hq5 : wq.cell? ⟨ga, oa + k * 6 + 5, none⟩ = some (.int .i64 count) := (Touch.cell ((Touch.drew [] W1).trans hRq (by simp)) (a := ⟨ga, oa + k * 6 + 5, none⟩) HGA.out (by simp)).trans HQ5.out
    simp only [Oper.gives]
    go_simp
    exact ⟨is_mk _ _, Touch.refl _ _⟩
  intro vals wz hRwz hfwz
  simp only [AllFacts] at hfwz
  have g0 := hfwz.1
  replace hfwz := hfwz.2
  have g1 := hfwz.1
  replace hfwz := hfwz.2
  have g2 := hfwz.1
  replace hfwz := hfwz.2
  have g3 := hfwz.1
  replace hfwz := hfwz.2
  have g4 := hfwz.1
  replace hfwz := hfwz.2
  have g5 := hfwz.1
  replace hfwz := hfwz.2
  have g6 := hfwz.1
  replace hfwz := hfwz.2
  have g7 := hfwz.1
  replace hfwz := hfwz.2
  have g8 := hfwz.1
  replace hfwz := hfwz.2
  have g9 := hfwz.1
  replace hfwz := hfwz.2
  have g10 := hfwz.1
  replace hfwz := hfwz.2
  have g11 := hfwz.1
  replace hfwz := hfwz.2
  have g12 := hfwz.1
  replace hfwz := hfwz.2
  have g13 := hfwz.1
  replace hfwz := hfwz.2
  have g14 := hfwz.1
  replace hfwz := hfwz.2
  have g15 := hfwz.1
  replace hfwz := hfwz.2
  clear hfwz
  replace g0 : vals 0 = _ := g0
  replace g1 : vals 1 = _ := g1
  replace g2 : vals 2 = _ := g2
  replace g3 : vals 3 = _ := g3
  replace g4 : vals 4 = _ := g4
  replace g5 : vals 5 = _ := g5
  replace g6 : vals 6 = _ := g6
  replace g7 : vals 7 = _ := g7
  replace g8 : vals 8 = _ := g8
  replace g9 : vals 9 = _ := g9
  replace g10 : vals 10 = _ := g10
  replace g11 : vals 11 = _ := g11
  replace g12 : vals 12 = _ := g12
  replace g13 : vals 13 = _ := g13
  replace g14 : vals 14 = _ := g14
  replace g15 : vals 15 = _ := g15
  simp only [List.drop_succ_cons, List.drop_zero]
  simp only [canonP, Act.put, List.setIfInBounds_toArray, List.set_cons_succ, List.set_cons_zero, g0, g1, g2, g3, g4, g5, g6, g7, g8, g9, g10, g11, g12, g13, g14, g15]
  clear g0 g1 g2 g3 g4 g5 g6 g7 g8 g9 g10 g11 g12 g13 g14 g15
  have hq := (Touch.drew [] W1).trans hRwz (by simp)
  have HQ := Lib.hid hq
  clear hq
  go_wp2_with fail
  refine (HADD.out _ (HQ.out.below (Nat.le_refl _) (by simp))).mono ?_
  intro e w2 hp
  unfold AddPost at hp
  obtain ⟨rfl, ⟨T', va', xs', hl, hT, hTl⟩, ht⟩ := hp
  have HL := Lib.hid hl
  have HT := Lib.hid (show ∀ k ∈ T', k ∈ T ∨ W1.heap.size ≤ k from fun k hk => (hT k hk).imp id (fun h => Nat.le_trans HQ.out.size h))
  have HTL := Lib.hid hTl
  have HTT := Lib.hid (((Touch.refl T W1).trans HQ.out (by simp)).trans ht (fun i hi => .inl hi))
  have he : (addE b == 0) = b := by cases b <;> rfl
  clear hl hT hTl ht
  go_wp2_with fail
  exact HK.out _ _ _ _ _ _ _ _ _ _ _ _ _ _ _ _ _ _ T' va' xs' HL.out HT.out HTL.out HTT.out
#print axioms added_reg8
/-! ### plainly -/
open Classical in
/-- a transaction is offered -/
noncomputable def stepA (g : G4) (p : CS × List AV) (x : AV) : CS × List AV :=
  if mayP g p.1 x.seq x.cs x.rs x.start x.count then (addC p.1 x.seq x.cs x.rs x.start x.count, p.2 ++ [x]) else p
noncomputable def runA (g : G4) (l : List AV) : CS × List AV := l.foldl (stepA g) (⟨false, 0, []⟩, [])
theorem runA_take {g : G4} {l : List AV} {k : Nat} {x : AV} (h : l[k]? = some x) : runA g (l.take (k + 1)) = stepA g (runA g (l.take k)) x := by
  unfold runA; rw [List.take_add_one, h, List.foldl_append]; rfl
theorem forgets_len (s : CS) : ∀ rs : List Int, (rs.foldl (fun (s : CS) b => s.forget b) s).all.length = s.all.length := by
  intro rs
  induction rs generalizing s with
  | nil => rfl
  | cons b rs ih => rw [List.foldl_cons, ih]; unfold CS.forget; simp
theorem addC_len (s : CS) (seq : Nat) (cs : List Cp) (rs : List Int) (start count : Int) : (addC s seq cs rs start count).all.length = s.all.length + 1 := by
  unfold addC; rw [forgets_len]; simp
theorem runA_inv (g : G4) (l : List AV) : (runA g l).1.all.length = (runA g l).2.length ∧ (runA g l).2.Sublist l := by
  suffices ∀ (l : List AV) (p : CS × List AV) (q : List AV), p.1.all.length = p.2.length → p.2.Sublist q → (l.foldl (stepA g) p).1.all.length = (l.foldl (stepA g) p).2.length ∧ (l.foldl (stepA g) p).2.Sublist (q ++ l) by
    have := this l (⟨false, 0, []⟩, []) [] rfl (List.Sublist.refl _)
    unfold runA
    rw [List.nil_append] at this
    exact this
  intro l
  induction l with
  | nil => intro p q h1 h2; exact ⟨h1, by simpa using h2⟩
  | cons x l ih =>
    intro p q h1 h2
    rw [List.foldl_cons]
    have := ih (stepA g p x) (q ++ [x]) (by unfold stepA; split; · rw [addC_len, h1]; simp
                                            · exact h1) (by unfold stepA; split; · exact h2.append (List.Sublist.refl _)
                                                            · exact h2.trans (List.sublist_append_left _ _))
    exact ⟨this.1, by have h3 := this.2; rwa [List.append_assoc] at h3⟩
#print axioms runA_inv
end Go.Proofs.Ytokehhegomiciaa
