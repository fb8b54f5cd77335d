/- geo.parts, and what geo.What tells. -/
import Derived.Test.YtgakdaohhbdjoaaG10
import Derived.Test.YtgakdaohhbdjoaaStores
set_option linter.unusedVariables false
set_option linter.unusedSimpArgs false
namespace Go.Proofs.Ytgakdaohhbdjoaa
open Go.RowKit Go.Shelf
attribute [local go_sem] Oper.semAt_some

set_option maxHeartbeats 1000000 in
theorem parts_in (n : Nat) (gr sz ni jr : Int) (w : World) :
    CallsIn Fence.wide n Try.prog 30 #[gv gr sz ni jr] w fun e w' => e = .returned (.func (.func 31) #[] #[.pointer (some ⟨w.heap.size, 0, none⟩)]) ∧ w' = w.alloc (gbox gr sz ni jr) := by
  refine callsIn_of_wp Try.func30 rfl trivial ?_ rfl
  simp only [Try.ntmps30, List.size_toArray, List.length_cons, List.length_nil, Nat.reduceAdd, Nat.reduceSub, Array.replicate_succ, Array.replicate_zero, List.push_toArray, List.append_toArray, List.nil_append, List.cons_append]
  gi_wp2
  go_ret
  exact ⟨rfl, rfl⟩

theorem parts_stops (n : Nat) (hn : 1 ≤ n) (Bn n₀ gr sz ni jr : Nat) (hM : May gr sz ni jr) (w : World) (hB : Bn < n₀) (hn₀ : n₀ ≤ w.heap.size) (hc : GAt w Bn gr sz ni jr) :
    SeqStopsK Fence.wide n Try.prog 31 #[.pointer (some ⟨Bn, 0, none⟩)] (fun x : Pt => #[x.v]) (Below n₀) (fun ys => ys = partsOf gr sz ni jr) (fun pre => pre <+: partsOf gr sz ni jr) (3 + 4 * gr) w :=
  fun l J Jx W hW hJ _ hY h0 => parts1_in n rfl hn l Bn n₀ gr sz ni jr hM hB J Jx hY W (Nat.le_trans hn₀ hW.size) hJ (hc.below hW (Nat.lt_of_lt_of_le hB hn₀)) h0
-- REG6
def codesIn : Code → List Code
  | .loop c => codesIn c
  | .seq a b => codesIn a ++ codesIn b
  | .block _ c => codesIn c
  | .scope c => codesIn c
  | .cond _ a b => codesIn a ++ codesIn b
  | .rangeFunc _ _ a b => codesIn a ++ codesIn b
  | .region i o b => [.region i o b]
  | _ => []
noncomputable def whatReg6 : Code := ((codesIn (Try.f18.body.getD .skip)).getD 6 .skip)
set_option maxRecDepth 100000 in
set_option maxHeartbeats 2000000 in
theorem reg6_in (l n Bx Bb B4 B5 B6 n₀ kd gp fr pl : Nat) (bl S1 S2 : Int) (T : Nat → Option Value) (W : World)
    (x0 : W.cell? ⟨Bx, 0, none⟩ = some (.int .u8 (kd : Int))) (x1 : W.cell? ⟨Bx, 1, none⟩ = some (.int .i64 (gp : Int))) (x2 : W.cell? ⟨Bx, 2, none⟩ = some (.int .i64 (fr : Int))) (x4 : W.cell? ⟨Bx, 4, none⟩ = some (.int .i64 (pl : Int)))
    (xb : W.cell? ⟨Bb, 0, none⟩ = some (.int .i64 bl)) (tx : T Bx = none) (tb : T Bb = none) (t4 : T B4 = some (.int .u8 (kd : Int))) (t5 : T B5 = some (.int .i64 (gp : Int))) (t6 : T B6 = some (.int .i64 S2))
    (n4 : n₀ ≤ B4) (n5 : n₀ ≤ B5) (n6 : n₀ ≤ B6) (s4 : (W.cell? ⟨B4, 0, none⟩).isSome = true) (s5 : (W.cell? ⟨B5, 0, none⟩).isSome = true) (s6 : (W.cell? ⟨B6, 0, none⟩).isSome = true)
    (z4 : W.frozen? ⟨B4, 0, none⟩ = false) (z5 : W.frozen? ⟨B5, 0, none⟩ = false) (z6 : W.frozen? ⟨B6, 0, none⟩ = false)
    (e1 : IntKind.i64.wrap ((pl : Int) + bl) = S1) (e2 : IntKind.i64.wrap (S1 - (fr : Int)) = S2) (c0 c1 c2 c8 c9 c10 c11 c12 c13 c14 c15 c16 c17 c18 c19 c20 c21 c22 c23 c24 c25 c26 c27 c28 c29 c30 c31 c32 c33 c34 c35 : Value) (Q : Exit → Act → World → Prop)
    (HK : Hid (∀ u25 u26 u27 u28 u29 u30 u31 u32 u33 u34 u35 wz, WR n₀ T W wz → wz.cell? ⟨B4, 0, none⟩ = some (.int .u8 (kd : Int)) → wz.cell? ⟨B5, 0, none⟩ = some (.int .i64 (gp : Int)) → wz.cell? ⟨B6, 0, none⟩ = some (.int .i64 S2) → Q .normal ⟨(c0 :: c1 :: c2 :: .pointer (some ⟨Bb, 0, none⟩) :: .pointer (some ⟨B4, 0, none⟩) :: .pointer (some ⟨B5, 0, none⟩) :: .pointer (some ⟨B6, 0, none⟩) :: .pointer (some ⟨Bx, 0, none⟩) :: c8 :: c9 :: c10 :: c11 :: c12 :: c13 :: c14 :: c15 :: c16 :: c17 :: c18 :: c19 :: c20 :: c21 :: c22 :: c23 :: c24 :: u25 :: u26 :: u27 :: u28 :: u29 :: u30 :: u31 :: u32 :: u33 :: u34 :: u35 :: []).toArray, []⟩ wz)) :
    whatReg6.wpIn (Fence.wide.inRound l) n Try.prog Q ⟨(c0 :: c1 :: c2 :: .pointer (some ⟨Bb, 0, none⟩) :: .pointer (some ⟨B4, 0, none⟩) :: .pointer (some ⟨B5, 0, none⟩) :: .pointer (some ⟨B6, 0, none⟩) :: .pointer (some ⟨Bx, 0, none⟩) :: c8 :: c9 :: c10 :: c11 :: c12 :: c13 :: c14 :: c15 :: c16 :: c17 :: c18 :: c19 :: c20 :: c21 :: c22 :: c23 :: c24 :: c25 :: c26 :: c27 :: c28 :: c29 :: c30 :: c31 :: c32 :: c33 :: c34 :: c35 :: []).toArray, []⟩ W := by
  have Hx0 := Lib.hid x0
  have Hx1 := Lib.hid x1
  have Hx2 := Lib.hid x2
  have Hx4 := Lib.hid x4
  have Hxb := Lib.hid xb
  have Htx := Lib.hid tx
  have Htb := Lib.hid tb
  have Ht4 := Lib.hid t4
  have Ht5 := Lib.hid t5
  have Ht6 := Lib.hid t6
  have Hs4 := Lib.hid s4
  have Hs5 := Lib.hid s5
  have Hs6 := Lib.hid s6
  have Hz4 := Lib.hid z4
  have Hz5 := Lib.hid z5
  have Hz6 := Lib.hid z6
  have He1 := Lib.hid e1
  have He2 := Lib.hid e2
  clear x0 x1 x2 x4 xb tx tb t4 t5 t6 s4 s5 s6 z4 z5 z6 e1 e2
  conv => arg 4; whnf
  have hQ : ¬ LetsOut (fun e a w => e = Exit.normal ∧ Q .normal a w) := fun ⟨_, _, h, _⟩ => by cases h
  refine wpIn_mono (Q := fun e a w => e = Exit.normal ∧ Q .normal a w) ?_ (fun e a w h => by obtain ⟨rfl, h⟩ := h; exact h)
  refine round_region_facts l n hQ (by kernel_rfl) (by kernel_rfl) [[], [(0, some 25)], [], [(2, some 27)], [], [(4, some 29)], [], [(5, some 30), (6, some 31)], [], [(8, some 33)], [(7, some 32), (9, some 34)], [(0, some 25), (1, some 26)], [(0, some 25), (1, some 26), (2, some 27), (3, some 28), (11, none)], [(0, some 25), (1, some 26), (2, some 27), (3, some 28), (4, some 29), (5, some 30), (6, some 31), (7, some 32), (8, some 33), (9, some 34), (10, some 35), (11, none), (12, none)]] [(0, some 25), (1, some 26), (2, some 27), (3, some 28), (4, some 29), (5, some 30), (6, some 31), (7, some 32), (8, some 33), (9, some 34), (10, some 35), (11, none), (12, none), (13, none)] (by kernel_rfl) (by kernel_rfl) (by kernel_rfl) (WR n₀ T) (WR.refl n₀ T) (fun _ _ _ h h' => WR.trans h h') [Is (Value.pointer (some ⟨Bx, 0, none⟩)), Is (Value.int .u8 (kd : Int)), Is (Value.pointer (some ⟨Bx, 1, none⟩)), Is (Value.int .i64 (gp : Int)), Is (Value.pointer (some ⟨Bx, 4, none⟩)), Is (Value.int .i64 (pl : Int)), Is (Value.int .i64 bl), Is (Value.int .i64 S1), Is (Value.pointer (some ⟨Bx, 2, none⟩)), Is (Value.int .i64 (fr : Int)), Is (Value.int .i64 S2), CellIs B4 (Value.int .u8 (kd : Int)), CellIs B5 (Value.int .i64 (gp : Int)), CellIs B6 (Value.int .i64 S2)] rfl ⟨is_stab _ _, is_stab _ _, is_stab _ _, is_stab _ _, is_stab _ _, is_stab _ _, is_stab _ _, is_stab _ _, is_stab _ _, is_stab _ _, is_stab _ _, cellIs_stab Ht4.out, cellIs_stab Ht5.out, cellIs_stab Ht6.out, trivial⟩ ⟨?o0, ?o1, ?o2, ?o3, ?o4, ?o5, ?o6, ?o7, ?o8, ?o9, ?o10, ?o11, ?o12, ?o13, trivial⟩ ?_
  case o0 =>
    intro vals wq hRq hpq
    simp only [List.getD_cons_zero, List.getD_cons_succ, canonP]
    simp only [Oper.gives]
    go_simp
    exact ⟨is_mk _ _, (WR.refl n₀ T) _⟩
  case o1 =>
    intro vals wq hRq hpq
    simp only [factsP, List.getD_cons_zero, List.getD_cons_succ] at hpq
    have f0 := hpq.1
    replace hpq := hpq.2
    clear hpq
    replace f0 : vals 0 = _ := f0
    simp only [List.getD_cons_zero, List.getD_cons_succ, canonP, f0]
    clear f0
    have hcc := (hRq.1 ⟨Bx, 0, none⟩ Htx.out).trans Hx0.out
    simp only [Oper.gives]
    go_simp
    exact ⟨is_mk _ _, WR.refl _ _ _⟩
  case o2 =>
    intro vals wq hRq hpq
    simp only [List.getD_cons_zero, List.getD_cons_succ, canonP]
    simp only [Oper.gives]
    go_simp
    exact ⟨is_mk _ _, (WR.refl n₀ T) _⟩
  case o3 =>
    intro vals wq hRq hpq
    simp only [factsP, List.getD_cons_zero, List.getD_cons_succ] at hpq
    have f2 := hpq.1
    replace hpq := hpq.2
    clear hpq
    replace f2 : vals 2 = _ := f2
    simp only [List.getD_cons_zero, List.getD_cons_succ, canonP, f2]
    clear f2
    have hcc := (hRq.1 ⟨Bx, 1, none⟩ Htx.out).trans Hx1.out
    simp only [Oper.gives]
    go_simp
    exact ⟨is_mk _ _, WR.refl _ _ _⟩
  case o4 =>
    intro vals wq hRq hpq
    simp only [List.getD_cons_zero, List.getD_cons_succ, canonP]
    simp only [Oper.gives]
    go_simp
    exact ⟨is_mk _ _, (WR.refl n₀ T) _⟩
  case o5 =>
    intro vals wq hRq hpq
    simp only [factsP, List.getD_cons_zero, List.getD_cons_succ] at hpq
    have f4 := hpq.1
    replace hpq := hpq.2
    clear hpq
    replace f4 : vals 4 = _ := f4
    simp only [List.getD_cons_zero, List.getD_cons_succ, canonP, f4]
    clear f4
    have hcc := (hRq.1 ⟨Bx, 4, none⟩ Htx.out).trans Hx4.out
    simp only [Oper.gives]
    go_simp
    exact ⟨is_mk _ _, WR.refl _ _ _⟩
  case o6 =>
    intro vals wq hRq hpq
    simp only [List.getD_cons_zero, List.getD_cons_succ, canonP]
    have hcc := (hRq.1 ⟨Bb, 0, none⟩ Htb.out).trans Hxb.out
    simp only [Oper.gives]
    go_simp
    exact ⟨is_mk _ _, WR.refl _ _ _⟩
  case o7 =>
    intro vals wq hRq hpq
    simp only [factsP, List.getD_cons_zero, List.getD_cons_succ] at hpq
    have f5 := hpq.1
    replace hpq := hpq.2
    have f6 := hpq.1
    replace hpq := hpq.2
    clear hpq
    replace f5 : vals 5 = _ := f5
    replace f6 : vals 6 = _ := f6
    simp only [List.getD_cons_zero, List.getD_cons_succ, canonP, f5, f6]
    clear f5 f6
    have e1 := He1.out
    simp only [Oper.gives]
    go_simp
    exact ⟨is_mk _ _, WR.refl _ _ _⟩
  case o8 =>
    intro vals wq hRq hpq
    simp only [List.getD_cons_zero, List.getD_cons_succ, canonP]
    simp only [Oper.gives]
    go_simp
    exact ⟨is_mk _ _, (WR.refl n₀ T) _⟩
  case o9 =>
    intro vals wq hRq hpq
    simp only [factsP, List.getD_cons_zero, List.getD_cons_succ] at hpq
    have f8 := hpq.1
    replace hpq := hpq.2
    clear hpq
    replace f8 : vals 8 = _ := f8
    simp only [List.getD_cons_zero, List.getD_cons_succ, canonP, f8]
    clear f8
    have hcc := (hRq.1 ⟨Bx, 2, none⟩ Htx.out).trans Hx2.out
    simp only [Oper.gives]
    go_simp
    exact ⟨is_mk _ _, WR.refl _ _ _⟩
  case o10 =>
    intro vals wq hRq hpq
    simp only [factsP, List.getD_cons_zero, List.getD_cons_succ] at hpq
    have f7 := hpq.1
    replace hpq := hpq.2
    have f9 := hpq.1
    replace hpq := hpq.2
    clear hpq
    replace f7 : vals 7 = _ := f7
    replace f9 : vals 9 = _ := f9
    simp only [List.getD_cons_zero, List.getD_cons_succ, canonP, f7, f9]
    clear f7 f9
    have e2 := He2.out
    simp only [Oper.gives]
    go_simp
    exact ⟨is_mk _ _, WR.refl _ _ _⟩
  case o11 =>
    intro vals wq hRq hpq
    simp only [factsP, List.getD_cons_zero, List.getD_cons_succ] at hpq
    have f0 := hpq.1
    replace hpq := hpq.2
    have f1 := hpq.1
    replace hpq := hpq.2
    clear hpq
    replace f0 : vals 0 = _ := f0
    replace f1 : vals 1 = _ := f1
    simp only [List.getD_cons_zero, List.getD_cons_succ, canonP, f0, f1]
    clear f0 f1
    have hvq : (wq.cell? ⟨B4, 0, none⟩).isSome = true := hRq.2.2.1 ⟨B4, 0, none⟩ Hs4.out
    have hfq : wq.frozen? ⟨B4, 0, none⟩ = false := (hRq.2.1 ⟨B4, 0, none⟩).trans Hz4.out
    simp only [Oper.gives]
    go_simp
    obtain ⟨vq, hv2⟩ := Option.isSome_iff_exists.1 hvq
    simp only [hv2, Result.andThen]
    exact ⟨cellIs_set hvq, WR.store wq Ht4.out n4⟩
  case o12 =>
    intro vals wq hRq hpq
    simp only [factsP, List.getD_cons_zero, List.getD_cons_succ] at hpq
    have f0 := hpq.1
    replace hpq := hpq.2
    have f1 := hpq.1
    replace hpq := hpq.2
    have f2 := hpq.1
    replace hpq := hpq.2
    have f3 := hpq.1
    replace hpq := hpq.2
    have f11 := hpq.1
    replace hpq := hpq.2
    clear hpq
    replace f0 : vals 0 = _ := f0
    replace f1 : vals 1 = _ := f1
    replace f2 : vals 2 = _ := f2
    replace f3 : vals 3 = _ := f3
    simp only [List.getD_cons_zero, List.getD_cons_succ, canonP, f0, f1, f2, f3]
    clear f0 f1 f2 f3
    have hvq : (wq.cell? ⟨B5, 0, none⟩).isSome = true := hRq.2.2.1 ⟨B5, 0, none⟩ Hs5.out
    have hfq : wq.frozen? ⟨B5, 0, none⟩ = false := (hRq.2.1 ⟨B5, 0, none⟩).trans Hz5.out
    simp only [Oper.gives]
    go_simp
    obtain ⟨vq, hv2⟩ := Option.isSome_iff_exists.1 hvq
    simp only [hv2, Result.andThen]
    exact ⟨cellIs_set hvq, WR.store wq Ht5.out n5⟩
  case o13 =>
    intro vals wq hRq hpq
    simp only [factsP, List.getD_cons_zero, List.getD_cons_succ] at hpq
    have f0 := hpq.1
    replace hpq := hpq.2
    have f1 := hpq.1
    replace hpq := hpq.2
    have f2 := hpq.1
    replace hpq := hpq.2
    have f3 := hpq.1
    replace hpq := hpq.2
    have f4 := hpq.1
    replace hpq := hpq.2
    have f5 := hpq.1
    replace hpq := hpq.2
    have f6 := hpq.1
    replace hpq := hpq.2
    have f7 := hpq.1
    replace hpq := hpq.2
    have f8 := hpq.1
    replace hpq := hpq.2
    have f9 := hpq.1
    replace hpq := hpq.2
    have f10 := hpq.1
    replace hpq := hpq.2
    have f11 := hpq.1
    replace hpq := hpq.2
    have f12 := hpq.1
    replace hpq := hpq.2
    clear hpq
    replace f0 : vals 0 = _ := f0
    replace f1 : vals 1 = _ := f1
    replace f2 : vals 2 = _ := f2
    replace f3 : vals 3 = _ := f3
    replace f4 : vals 4 = _ := f4
    replace f5 : vals 5 = _ := f5
    replace f6 : vals 6 = _ := f6
    replace f7 : vals 7 = _ := f7
    replace f8 : vals 8 = _ := f8
    replace f9 : vals 9 = _ := f9
    replace f10 : vals 10 = _ := f10
    simp only [List.getD_cons_zero, List.getD_cons_succ, canonP, f0, f1, f2, f3, f4, f5, f6, f7, f8, f9, f10]
    clear f0 f1 f2 f3 f4 f5 f6 f7 f8 f9 f10
    have hvq : (wq.cell? ⟨B6, 0, none⟩).isSome = true := hRq.2.2.1 ⟨B6, 0, none⟩ Hs6.out
    have hfq : wq.frozen? ⟨B6, 0, none⟩ = false := (hRq.2.1 ⟨B6, 0, none⟩).trans Hz6.out
    simp only [Oper.gives]
    go_simp
    obtain ⟨vq, hv2⟩ := Option.isSome_iff_exists.1 hvq
    simp only [hv2, Result.andThen]
    exact ⟨cellIs_set hvq, WR.store wq Ht6.out n6⟩
  intro vals wz hRwz hfwz
  simp only [AllFacts] at hfwz
  have g0 := hfwz.1
  replace hfwz := hfwz.2
  have g1 := hfwz.1
  replace hfwz := hfwz.2
  have g2 := hfwz.1
  replace hfwz := hfwz.2
  have g3 := hfwz.1
  replace hfwz := hfwz.2
  have g4 := hfwz.1
  replace hfwz := hfwz.2
  have g5 := hfwz.1
  replace hfwz := hfwz.2
  have g6 := hfwz.1
  replace hfwz := hfwz.2
  have g7 := hfwz.1
  replace hfwz := hfwz.2
  have g8 := hfwz.1
  replace hfwz := hfwz.2
  have g9 := hfwz.1
  replace hfwz := hfwz.2
  have g10 := hfwz.1
  replace hfwz := hfwz.2
  have g11 := hfwz.1
  replace hfwz := hfwz.2
  have g12 := hfwz.1
  replace hfwz := hfwz.2
  have g13 := hfwz.1
  replace hfwz := hfwz.2
  clear hfwz
  replace g0 : vals 0 = _ := g0
  replace g1 : vals 1 = _ := g1
  replace g2 : vals 2 = _ := g2
  replace g3 : vals 3 = _ := g3
  replace g4 : vals 4 = _ := g4
  replace g5 : vals 5 = _ := g5
  replace g6 : vals 6 = _ := g6
  replace g7 : vals 7 = _ := g7
  replace g8 : vals 8 = _ := g8
  replace g9 : vals 9 = _ := g9
  replace g10 : vals 10 = _ := g10
  simp only [canonP, Act.put, List.setIfInBounds_toArray, List.set_cons_succ, List.set_cons_zero, g0, g1, g2, g3, g4, g5, g6, g7, g8, g9, g10]
  clear g0 g1 g2 g3 g4 g5 g6 g7 g8 g9 g10
  exact ⟨trivial, HK.out _ _ _ _ _ _ _ _ _ _ _ _ ((WR.drew n₀ T W).trans hRwz) g11.out g12.out g13.out⟩
#print axioms reg6_in
end Go.Proofs.Ytgakdaohhbdjoaa
