/- The law's does: a write at both disks: its region. -/
import Derived.Test.YtkcbjhdklenlbaaD46
set_option linter.unusedVariables false
set_option linter.unusedSimpArgs false
namespace Go.Proofs.Ytkcbjhdklenlbaa
open Go.RowKit

theorem gives_call_post {P : Program} {o : Oper} {a : Act} {w : World} {T : Value → World → Prop} {f : FuncId} {args : Array Value} (h : (execOp a.eval o).run P w = .ok (.enter f args) w) (hc : Calls P f args w fun e w'' => ∃ v, e = .returned v ∧ T v w'') : Oper.gives P o a w T := by
  unfold Oper.gives; rw [h]; exact hc
theorem twin_apart {S T S' : List Nat} {n : Nat} (hS : ∀ k ∈ S', k ∈ S ∨ n ≤ k) (hap : ∀ k ∈ S, k ∉ T) (hT : ∀ k ∈ T, k < n) : ∀ k ∈ S', k ∉ T := by
  intro k hk hm
  rcases hS k hk with h | h
  · exact hap k h hm
  · have := hT k hm; omega
theorem IsDisk.lt {w : World} {B : Nat} {S : List Nat} {d : DS} (h : IsDisk w B S d) : ∀ k ∈ S, k < w.heap.size := by
  obtain ⟨gs, cs, gl, cl, vw, h⟩ := h
  exact h.lt
theorem twin_join {W1 wq w' : World} {B R : Nat} {S T : List Nat} {d' : DS} (h6 : ∃ S', IsDisk wq B S' d' ∧ ∀ k ∈ S', k ∈ S ∨ W1.heap.size ≤ k) (h13 : ∃ T', IsRef w' R T' d' ∧ Touch T wq w' ∧ ∀ k ∈ T', k ∈ T ∨ wq.heap.size ≤ k) (hsz : W1.heap.size ≤ wq.heap.size) (hap : ∀ k ∈ S, k ∉ T) (hT : ∀ k ∈ T, k < W1.heap.size) :
    ∃ S' T', IsDisk w' B S' d' ∧ IsRef w' R T' d' ∧ (∀ k ∈ S', k ∉ T') ∧ (∀ k ∈ S', k ∈ S ∨ W1.heap.size ≤ k) ∧ ∀ k ∈ T', k ∈ T ∨ W1.heap.size ≤ k := by
  obtain ⟨S', h1, h2⟩ := h6
  obtain ⟨T', h3, h4, h5⟩ := h13
  have hA := twin_apart h2 hap hT
  refine ⟨S', T', h1.kept h4 hA, h3, ?_, h2, fun k hk => (h5 k hk).imp id (Nat.le_trans hsz)⟩
  intro k hk hm
  have hk1 := h1.lt k hk
  rcases h5 k hm with h | h
  · exact hA k hk h
  · omega

noncomputable def doesW : Code := regById 22 (codesOf (Try.f29.body.getD .skip))
set_option maxRecDepth 100000 in
set_option maxHeartbeats 4000000 in
theorem doesw_reg (B R P fl : Nat) (S T : List Nat) (d d' : DS) (at' wy : Int) (x : Blk) (W1 : World) (HT0 : Hid (IsDisk W1 B S d)) (HT1 : Hid (IsRef W1 R T d)) (HAP : Hid (∀ k ∈ S, k ∉ T)) (HTL : Hid (∀ k ∈ T, k < W1.heap.size)) (HP1 : Hid (W1.cell? ⟨P, 1, none⟩ = some (.int .i64 at'))) (HP2 : Hid (W1.cell? ⟨P, 2, none⟩ = some (.int .u32 (fl : Int)))) (HPL : Hid (P < W1.heap.size)) (HPS : Hid (P ∉ S ++ T))
    (HF : Hid (∀ wq, Calls Try.prog 14 #[.int .u32 (fl : Int)] wq fun e w' => e = .returned (.agg (bc x).toArray) ∧ Grow wq w'))
    (HC : Hid (∀ wq, IsDisk wq B S d → Calls Try.prog 22 #[.pointer (some ⟨B, 0, none⟩), .int .i64 at', .agg (bc x).toArray] wq fun e w' => e = .returned (.int .i64 wy) ∧ ∃ S', IsDisk w' B S' d' ∧ Touch S wq w' ∧ ∀ k ∈ S', k ∈ S ∨ wq.heap.size ≤ k))
    (HD : Hid (∀ wq, IsRef wq R T d → Calls Try.prog 42 #[.pointer (some ⟨R, 0, none⟩), .int .i64 at', .agg (bc x).toArray] wq fun e w' => e = .returned (.int .i64 wy) ∧ ∃ T', IsRef w' R T' d' ∧ Touch T wq w' ∧ ∀ k ∈ T', k ∈ T ∨ wq.heap.size ≤ k))
    (c2 c3 c4 c6 c7 c8 c9 c10 c11 c12 c13 c14 c15 c16 c17 c18 c19 c20 c21 c22 c23 c24 c25 c26 c27 c28 c29 c30 c31 c32 c33 c34 c35 c36 c37 c38 c39 c40 c41 c42 c43 c44 c45 c46 c47 c48 c49 c50 c51 c52 c53 c54 c55 c56 c57 c58 c59 c60 c61 c62 c63 c64 c65 c66 c67 c68 c69 c70 c71 c72 c73 c74 c75 c76 c77 c78 c79 c80 c81 c82 c83 c84 c85 c86 c87 c88 c89 c90 c91 c92 c93 c94 c95 c96 c97 c98 c99 c100 : Value) (Q : Exit → Act → World → Prop) (HK : Hid (∀ u86 u87 u88 u89 u90 u91 u92 u93 u94 u95 u96 u97 u98 u99 u100 wz, Touch (S ++ T) W1 wz → (∃ S' T', IsDisk wz B S' d' ∧ IsRef wz R T' d' ∧ (∀ k ∈ S', k ∉ T') ∧ (∀ k ∈ S', k ∈ S ∨ W1.heap.size ≤ k) ∧ ∀ k ∈ T', k ∈ T ∨ W1.heap.size ≤ k) → Q .normal ⟨(.pointer (some ⟨B, 0, none⟩) :: .pointer (some ⟨R, 0, none⟩) :: c2 :: c3 :: c4 :: .pointer (some ⟨P, 0, none⟩) :: .bool true :: c7 :: c8 :: c9 :: c10 :: c11 :: c12 :: c13 :: c14 :: c15 :: c16 :: c17 :: c18 :: c19 :: c20 :: c21 :: c22 :: c23 :: c24 :: c25 :: c26 :: c27 :: c28 :: c29 :: c30 :: c31 :: c32 :: c33 :: c34 :: c35 :: c36 :: c37 :: c38 :: c39 :: c40 :: c41 :: c42 :: c43 :: c44 :: c45 :: c46 :: c47 :: c48 :: c49 :: c50 :: c51 :: c52 :: c53 :: c54 :: c55 :: c56 :: c57 :: c58 :: c59 :: c60 :: c61 :: c62 :: c63 :: c64 :: c65 :: c66 :: c67 :: c68 :: c69 :: c70 :: c71 :: c72 :: c73 :: c74 :: c75 :: c76 :: c77 :: c78 :: c79 :: c80 :: c81 :: c82 :: c83 :: c84 :: c85 :: u86 :: u87 :: u88 :: u89 :: u90 :: u91 :: u92 :: u93 :: u94 :: u95 :: u96 :: u97 :: u98 :: u99 :: u100 :: []).toArray, []⟩ wz)) : doesW.wp Try.prog Q ⟨(.pointer (some ⟨B, 0, none⟩) :: .pointer (some ⟨R, 0, none⟩) :: c2 :: c3 :: c4 :: .pointer (some ⟨P, 0, none⟩) :: c6 :: c7 :: c8 :: c9 :: c10 :: c11 :: c12 :: c13 :: c14 :: c15 :: c16 :: c17 :: c18 :: c19 :: c20 :: c21 :: c22 :: c23 :: c24 :: c25 :: c26 :: c27 :: c28 :: c29 :: c30 :: c31 :: c32 :: c33 :: c34 :: c35 :: c36 :: c37 :: c38 :: c39 :: c40 :: c41 :: c42 :: c43 :: c44 :: c45 :: c46 :: c47 :: c48 :: c49 :: c50 :: c51 :: c52 :: c53 :: c54 :: c55 :: c56 :: c57 :: c58 :: c59 :: c60 :: c61 :: c62 :: c63 :: c64 :: c65 :: c66 :: c67 :: c68 :: c69 :: c70 :: c71 :: c72 :: c73 :: c74 :: c75 :: c76 :: c77 :: c78 :: c79 :: c80 :: c81 :: c82 :: c83 :: c84 :: c85 :: c86 :: c87 :: c88 :: c89 :: c90 :: c91 :: c92 :: c93 :: c94 :: c95 :: c96 :: c97 :: c98 :: c99 :: c100 :: []).toArray, []⟩ W1 := by
  have HN0 := Lib.hid (show ∀ p ∈ ([(6, fun wx => IsDisk wx B S d), (13, fun wx => IsRef wx R T d)] : List (Nat × (World → Prop))), p.2 W1.drew by
    intro p hp
    simp only [List.mem_cons, List.not_mem_nil, or_false] at hp
    rcases hp with rfl | rfl
    · exact HT0.out.kept (Touch.drew [] W1) (by simp)
    · exact HT1.out.kept (Touch.drew [] W1) (by simp))
  conv => arg 2; whnf
  refine wp_region_factsN [6, 13] [(6, fun wx => IsDisk wx B S d), (13, fun wx => IsRef wx R T d)] (by kernel_rfl) [[], [], [(1, some 87)], [], [(3, some 89)], [(4, some 90)], [(0, some 86), (2, some 88), (5, some 91)], [], [], [(8, some 94)], [], [(10, some 96)], [(6, some 92), (11, some 97)], [(6, some 92), (7, some 93), (9, some 95), (12, some 98)], [(6, some 92), (13, some 99)], [(0, some 86), (1, some 87), (2, some 88), (3, some 89), (4, some 90), (5, some 91), (6, some 92), (7, some 93), (8, some 94), (9, some 95), (10, some 96), (11, some 97), (12, some 98), (13, some 99), (14, some 100)]] [(0, some 86), (1, some 87), (2, some 88), (3, some 89), (4, some 90), (5, some 91), (6, some 92), (7, some 93), (8, some 94), (9, some 95), (10, some 96), (11, some 97), (12, some 98), (13, some 99), (14, some 100), (15, some 6)] (by kernel_rfl) (by kernel_rfl) (by kernel_rfl) (Touch (S ++ T)) (Touch.refl (S ++ T)) (fun _ _ _ h h' => h.trans h' (fun i hi => .inl hi)) [Is (Value.pointer (some ⟨B, 0, none⟩)), Is (Value.pointer (some ⟨P, 1, none⟩)), Is (Value.int .i64 at'), Is (Value.pointer (some ⟨P, 2, none⟩)), Is (Value.int .u32 (fl : Int)), Is (Value.agg (bc x).toArray), (fun v wx => v = .int .i64 wy ∧ ∃ S', IsDisk wx B S' d' ∧ ∀ k ∈ S', k ∈ S ∨ W1.heap.size ≤ k), Is (Value.pointer (some ⟨R, 0, none⟩)), Is (Value.pointer (some ⟨P, 1, none⟩)), Is (Value.int .i64 at'), Is (Value.pointer (some ⟨P, 2, none⟩)), Is (Value.int .u32 (fl : Int)), Is (Value.agg (bc x).toArray), (fun v wx => v = .int .i64 wy ∧ ∃ S' T', IsDisk wx B S' d' ∧ IsRef wx R T' d' ∧ (∀ k ∈ S', k ∉ T') ∧ (∀ k ∈ S', k ∈ S ∨ W1.heap.size ≤ k) ∧ ∀ k ∈ T', k ∈ T ∨ W1.heap.size ≤ k), Is (Value.bool true), Is (Value.bool true)] rfl ⟨.inr (is_stab _ _), .inr (is_stab _ _), .inr (is_stab _ _), .inr (is_stab _ _), .inr (is_stab _ _), .inr (is_stab _ _), .inl (by simp), .inr (is_stab _ _), .inr (is_stab _ _), .inr (is_stab _ _), .inr (is_stab _ _), .inr (is_stab _ _), .inr (is_stab _ _), .inl (by simp), .inr (is_stab _ _), .inr (is_stab _ _), trivial⟩ HN0.out ⟨?o0, ?o1, ?o2, ?o3, ?o4, ?o5, ?o6, ?o7, ?o8, ?o9, ?o10, ?o11, ?o12, ?o13, ?o14, ?o15, trivial⟩ ?_
  case o0 =>
    intro vals wq hRq hNq hpq
    simp only [List.getD_cons_zero, List.getD_cons_succ, canonP]
    try simp only [f6.1]
    try simp only [f13.1]
    simp only [Oper.gives]
    go_simp
    first | exact ⟨is_mk _ _, Touch.refl _ _⟩ | exact ⟨is_mk _ _, Touch.refl _ _, (fun _ _ _ _ h => h), (fun _ _ _ _ _ h => h)⟩ | (refine ⟨is_mk _ _, Touch.refl _ _, ?_⟩; repeat' first | assumption | exact ⟨_, by assumption⟩ | refine And.intro ?_ ?_ | intro _)
  case o1 =>
    intro vals wq hRq hNq hpq
    simp only [List.getD_cons_zero, List.getD_cons_succ, canonP]
    try simp only [f6.1]
    try simp only [f13.1]
    simp only [Oper.gives]
    go_simp
    first | exact ⟨is_mk _ _, Touch.refl _ _⟩ | exact ⟨is_mk _ _, Touch.refl _ _, (fun _ _ _ _ h => h), (fun _ _ _ _ _ h => h)⟩ | (refine ⟨is_mk _ _, Touch.refl _ _, ?_⟩; repeat' first | assumption | exact ⟨_, by assumption⟩ | refine And.intro ?_ ?_ | intro _)
  case o2 =>
    intro vals wq hRq hNq hpq
    simp only [factsP, List.getD_cons_zero, List.getD_cons_succ] at hpq
    have f1 := hpq.1
    replace hpq := hpq.2
    clear hpq
    replace f1 : vals 1 = _ := f1
    simp only [List.getD_cons_zero, List.getD_cons_succ, canonP, f1]
    clear f1
    have hcc : wq.cell? ⟨P, 1, none⟩ = some (.int .i64 at') := (hRq.cell (a := ⟨P, 1, none⟩) HPL.out HPS.out).trans HP1.out
    simp only [Oper.gives]
    go_simp
    first | exact ⟨is_mk _ _, Touch.refl _ _⟩ | exact ⟨is_mk _ _, Touch.refl _ _, (fun _ _ _ _ h => h), (fun _ _ _ _ _ h => h)⟩ | (refine ⟨is_mk _ _, Touch.refl _ _, ?_⟩; repeat' first | assumption | exact ⟨_, by assumption⟩ | refine And.intro ?_ ?_ | intro _)
  case o3 =>
    intro vals wq hRq hNq hpq
    simp only [List.getD_cons_zero, List.getD_cons_succ, canonP]
    try simp only [f6.1]
    try simp only [f13.1]
    simp only [Oper.gives]
    go_simp
    first | exact ⟨is_mk _ _, Touch.refl _ _⟩ | exact ⟨is_mk _ _, Touch.refl _ _, (fun _ _ _ _ h => h), (fun _ _ _ _ _ h => h)⟩ | (refine ⟨is_mk _ _, Touch.refl _ _, ?_⟩; repeat' first | assumption | exact ⟨_, by assumption⟩ | refine And.intro ?_ ?_ | intro _)
  case o4 =>
    intro vals wq hRq hNq hpq
    simp only [factsP, List.getD_cons_zero, List.getD_cons_succ] at hpq
    have f3 := hpq.1
    replace hpq := hpq.2
    clear hpq
    replace f3 : vals 3 = _ := f3
    simp only [List.getD_cons_zero, List.getD_cons_succ, canonP, f3]
    clear f3
    have hcc : wq.cell? ⟨P, 2, none⟩ = some (.int .u32 (fl : Int)) := (hRq.cell (a := ⟨P, 2, none⟩) HPL.out HPS.out).trans HP2.out
    simp only [Oper.gives]
    go_simp
    first | exact ⟨is_mk _ _, Touch.refl _ _⟩ | exact ⟨is_mk _ _, Touch.refl _ _, (fun _ _ _ _ h => h), (fun _ _ _ _ _ h => h)⟩ | (refine ⟨is_mk _ _, Touch.refl _ _, ?_⟩; repeat' first | assumption | exact ⟨_, by assumption⟩ | refine And.intro ?_ ?_ | intro _)
  case o5 =>
    intro vals wq hRq hNq hpq
    simp only [factsP, List.getD_cons_zero, List.getD_cons_succ] at hpq
    have f4 := hpq.1
    replace hpq := hpq.2
    clear hpq
    replace f4 : vals 4 = _ := f4
    simp only [List.getD_cons_zero, List.getD_cons_succ, canonP, f4]
    clear f4
    rw [if_pos (by rfl)]
    refine gives_call_post (f := 14) (args := #[.int .u32 (fl : Int)]) (by unfold execOp; go_simp) ((HF.out wq).mono ?_)
    intro e w' hh
    refine ⟨_, hh.1, is_mk _ _, Touch.of_below hh.2, ?_, ?_⟩
    · intro p hp _ _ h; simp only [List.mem_cons, List.not_mem_nil, or_false] at hp; rcases hp with rfl | rfl
      · exact IsDisk.kept h (Touch.of_below (S := []) hh.2) (by simp)
      · exact IsRef.kept h (Touch.of_below (S := []) hh.2) (by simp)
    · intro q hq _ _ u hu; simp only [List.mem_cons, List.not_mem_nil, or_false] at hq; rcases hq with rfl | rfl
      · exact ⟨hu.1, hu.2.elim fun S' h => ⟨S', h.1.kept (Touch.of_below (S := []) hh.2) (by simp), h.2⟩⟩
      · exact ⟨hu.1, hu.2.elim fun S' h => h.elim fun T' h => ⟨S', T', h.1.kept (Touch.of_below (S := []) hh.2) (by simp), h.2.1.kept (Touch.of_below (S := []) hh.2) (by simp), h.2.2⟩⟩
  case o6 =>
    intro vals wq hRq hNq hpq
    simp only [factsP, List.getD_cons_zero, List.getD_cons_succ] at hpq
    have f0 := hpq.1
    replace hpq := hpq.2
    have f2 := hpq.1
    replace hpq := hpq.2
    have f5 := hpq.1
    replace hpq := hpq.2
    clear hpq
    replace f0 : vals 0 = _ := f0
    replace f2 : vals 2 = _ := f2
    replace f5 : vals 5 = _ := f5
    simp only [List.getD_cons_zero, List.getD_cons_succ, canonP, f0, f2, f5]
    clear f0 f2 f5
    have htt : IsDisk wq B S d := hNq (6, fun wx => IsDisk wx B S d) (List.Mem.head _) rfl
    have hsz : W1.heap.size ≤ wq.heap.size := hRq.size
    rw [if_pos (by rfl)]
    refine gives_call_post (f := 22) (args := #[.pointer (some ⟨B, 0, none⟩), .int .i64 at', .agg (bc x).toArray]) (by unfold execOp; go_simp) ((HC.out wq htt).mono ?_)
    intro e w' hh
    refine ⟨_, hh.1, ⟨rfl, hh.2.elim fun S' h => ⟨S', h.1, fun k hk => (h.2.2 k hk).imp id (Nat.le_trans hsz)⟩⟩, hh.2.elim fun S' h => h.2.1.mono (fun i hi => .inl (List.mem_append_left _ hi)), ?_, ?_⟩
    · intro p hp hn _ h; simp only [List.mem_cons, List.not_mem_nil, or_false] at hp; rcases hp with rfl | rfl
      · exact absurd rfl hn
      · exact hh.2.elim fun S' h2 => IsRef.kept h h2.2.1 (fun k hk hm => HAP.out k hm hk)
    · intro q hq hne hnp; exact absurd hq (by intro hq; simp at hq; rcases hq with rfl | rfl <;> first | exact hne rfl | exact hnp (by simp))
  case o7 =>
    intro vals wq hRq hNq hpq
    simp only [List.getD_cons_zero, List.getD_cons_succ, canonP]
    try simp only [f6.1]
    try simp only [f13.1]
    simp only [Oper.gives]
    go_simp
    first | exact ⟨is_mk _ _, Touch.refl _ _⟩ | exact ⟨is_mk _ _, Touch.refl _ _, (fun _ _ _ _ h => h), (fun _ _ _ _ _ h => h)⟩ | (refine ⟨is_mk _ _, Touch.refl _ _, ?_⟩; repeat' first | assumption | exact ⟨_, by assumption⟩ | refine And.intro ?_ ?_ | intro _)
  case o8 =>
    intro vals wq hRq hNq hpq
    simp only [List.getD_cons_zero, List.getD_cons_succ, canonP]
    try simp only [f6.1]
    try simp only [f13.1]
    simp only [Oper.gives]
    go_simp
    first | exact ⟨is_mk _ _, Touch.refl _ _⟩ | exact ⟨is_mk _ _, Touch.refl _ _, (fun _ _ _ _ h => h), (fun _ _ _ _ _ h => h)⟩ | (refine ⟨is_mk _ _, Touch.refl _ _, ?_⟩; repeat' first | assumption | exact ⟨_, by assumption⟩ | refine And.intro ?_ ?_ | intro _)
  case o9 =>
    intro vals wq hRq hNq hpq
    simp only [factsP, List.getD_cons_zero, List.getD_cons_succ] at hpq
    have f8 := hpq.1
    replace hpq := hpq.2
    clear hpq
    replace f8 : vals 8 = _ := f8
    simp only [List.getD_cons_zero, List.getD_cons_succ, canonP, f8]
    clear f8
    have hcc : wq.cell? ⟨P, 1, none⟩ = some (.int .i64 at') := (hRq.cell (a := ⟨P, 1, none⟩) HPL.out HPS.out).trans HP1.out
    simp only [Oper.gives]
    go_simp
    first | exact ⟨is_mk _ _, Touch.refl _ _⟩ | exact ⟨is_mk _ _, Touch.refl _ _, (fun _ _ _ _ h => h), (fun _ _ _ _ _ h => h)⟩ | (refine ⟨is_mk _ _, Touch.refl _ _, ?_⟩; repeat' first | assumption | exact ⟨_, by assumption⟩ | refine And.intro ?_ ?_ | intro _)
  case o10 =>
    intro vals wq hRq hNq hpq
    simp only [List.getD_cons_zero, List.getD_cons_succ, canonP]
    try simp only [f6.1]
    try simp only [f13.1]
    simp only [Oper.gives]
    go_simp
    first | exact ⟨is_mk _ _, Touch.refl _ _⟩ | exact ⟨is_mk _ _, Touch.refl _ _, (fun _ _ _ _ h => h), (fun _ _ _ _ _ h => h)⟩ | (refine ⟨is_mk _ _, Touch.refl _ _, ?_⟩; repeat' first | assumption | exact ⟨_, by assumption⟩ | refine And.intro ?_ ?_ | intro _)
  case o11 =>
    intro vals wq hRq hNq hpq
    simp only [factsP, List.getD_cons_zero, List.getD_cons_succ] at hpq
    have f10 := hpq.1
    replace hpq := hpq.2
    clear hpq
    replace f10 : vals 10 = _ := f10
    simp only [List.getD_cons_zero, List.getD_cons_succ, canonP, f10]
    clear f10
    have hcc : wq.cell? ⟨P, 2, none⟩ = some (.int .u32 (fl : Int)) := (hRq.cell (a := ⟨P, 2, none⟩) HPL.out HPS.out).trans HP2.out
    simp only [Oper.gives]
    go_simp
    first | exact ⟨is_mk _ _, Touch.refl _ _⟩ | exact ⟨is_mk _ _, Touch.refl _ _, (fun _ _ _ _ h => h), (fun _ _ _ _ _ h => h)⟩ | (refine ⟨is_mk _ _, Touch.refl _ _, ?_⟩; repeat' first | assumption | exact ⟨_, by assumption⟩ | refine And.intro ?_ ?_ | intro _)
  case o12 =>
    intro vals wq hRq hNq hpq
    simp only [factsP, List.getD_cons_zero, List.getD_cons_succ] at hpq
    have f6 := hpq.1
    replace hpq := hpq.2
    have f11 := hpq.1
    replace hpq := hpq.2
    clear hpq
    replace f11 : vals 11 = _ := f11
    simp only [List.getD_cons_zero, List.getD_cons_succ, canonP, f11]
    clear f11
    rw [if_pos (by rfl)]
    refine gives_call_post (f := 14) (args := #[.int .u32 (fl : Int)]) (by unfold execOp; go_simp) ((HF.out wq).mono ?_)
    intro e w' hh
    refine ⟨_, hh.1, is_mk _ _, Touch.of_below hh.2, ?_, ?_⟩
    · intro p hp _ _ h; simp only [List.mem_cons, List.not_mem_nil, or_false] at hp; rcases hp with rfl | rfl
      · exact IsDisk.kept h (Touch.of_below (S := []) hh.2) (by simp)
      · exact IsRef.kept h (Touch.of_below (S := []) hh.2) (by simp)
    · intro q hq _ _ u hu; simp only [List.mem_cons, List.not_mem_nil, or_false] at hq; rcases hq with rfl | rfl
      · exact ⟨hu.1, hu.2.elim fun S' h => ⟨S', h.1.kept (Touch.of_below (S := []) hh.2) (by simp), h.2⟩⟩
      · exact ⟨hu.1, hu.2.elim fun S' h => h.elim fun T' h => ⟨S', T', h.1.kept (Touch.of_below (S := []) hh.2) (by simp), h.2.1.kept (Touch.of_below (S := []) hh.2) (by simp), h.2.2⟩⟩
  case o13 =>
    intro vals wq hRq hNq hpq
    simp only [factsP, List.getD_cons_zero, List.getD_cons_succ] at hpq
    have f6 := hpq.1
    replace hpq := hpq.2
    have f7 := hpq.1
    replace hpq := hpq.2
    have f9 := hpq.1
    replace hpq := hpq.2
    have f12 := hpq.1
    replace hpq := hpq.2
    clear hpq
    replace f7 : vals 7 = _ := f7
    replace f9 : vals 9 = _ := f9
    replace f12 : vals 12 = _ := f12
    simp only [List.getD_cons_zero, List.getD_cons_succ, canonP, f7, f9, f12]
    clear f7 f9 f12
    have htt : IsRef wq R T d := hNq (13, fun wx => IsRef wx R T d) (List.Mem.tail _ (List.Mem.head _)) rfl
    have hsz : W1.heap.size ≤ wq.heap.size := hRq.size
    have h6 := f6.2
    rw [if_pos (by rfl)]
    refine gives_call_post (f := 42) (args := #[.pointer (some ⟨R, 0, none⟩), .int .i64 at', .agg (bc x).toArray]) (by unfold execOp; go_simp) ((HD.out wq htt).mono ?_)
    intro e w' hh
    refine ⟨_, hh.1, ⟨rfl, ?_⟩, hh.2.elim fun T' h => h.2.1.mono (fun i hi => .inl (List.mem_append_right _ hi)), ?_, ?_⟩
    · exact twin_join h6 hh.2 hsz HAP.out HTL.out
    · intro p hp hn hnp h; simp only [List.mem_cons, List.not_mem_nil, or_false] at hp; rcases hp with rfl | rfl
      · exact absurd (by simp) hnp
      · exact absurd rfl hn
    · intro q hq hne hnp u hu; simp only [List.mem_cons, List.not_mem_nil, or_false] at hq; rcases hq with rfl | rfl
      · exact ⟨hu.1, hu.2.elim fun S' h => hh.2.elim fun T' h2 => ⟨S', h.1.kept h2.2.1 (fun k hk hm => twin_apart h.2 HAP.out HTL.out k hk hm), h.2⟩⟩
      · exact absurd rfl hne
  case o14 =>
    intro vals wq hRq hNq hpq
    simp only [factsP, List.getD_cons_zero, List.getD_cons_succ] at hpq
    have f6 := hpq.1
    replace hpq := hpq.2
    have f13 := hpq.1
    replace hpq := hpq.2
    clear hpq
    simp only [List.getD_cons_zero, List.getD_cons_succ, canonP]
    simp only [f6.1, f13.1]
    simp only [Oper.gives]
    go_simp
    first | exact ⟨is_mk _ _, Touch.refl _ _⟩ | exact ⟨is_mk _ _, Touch.refl _ _, (fun _ _ _ _ h => h), (fun _ _ _ _ _ h => h)⟩ | (refine ⟨is_mk _ _, Touch.refl _ _, ?_⟩; repeat' first | assumption | exact ⟨_, by assumption⟩ | refine And.intro ?_ ?_ | intro _)
  case o15 =>
    intro vals wq hRq hNq hpq
    simp only [factsP, List.getD_cons_zero, List.getD_cons_succ] at hpq
    have f0 := hpq.1
    replace hpq := hpq.2
    have f1 := hpq.1
    replace hpq := hpq.2
    have f2 := hpq.1
    replace hpq := hpq.2
    have f3 := hpq.1
    replace hpq := hpq.2
    have f4 := hpq.1
    replace hpq := hpq.2
    have f5 := hpq.1
    replace hpq := hpq.2
    have f6 := hpq.1
    replace hpq := hpq.2
    have f7 := hpq.1
    replace hpq := hpq.2
    have f8 := hpq.1
    replace hpq := hpq.2
    have f9 := hpq.1
    replace hpq := hpq.2
    have f10 := hpq.1
    replace hpq := hpq.2
    have f11 := hpq.1
    replace hpq := hpq.2
    have f12 := hpq.1
    replace hpq := hpq.2
    have f13 := hpq.1
    replace hpq := hpq.2
    have f14 := hpq.1
    replace hpq := hpq.2
    clear hpq
    replace f0 : vals 0 = _ := f0
    replace f1 : vals 1 = _ := f1
    replace f2 : vals 2 = _ := f2
    replace f3 : vals 3 = _ := f3
    replace f4 : vals 4 = _ := f4
    replace f5 : vals 5 = _ := f5
    replace f7 : vals 7 = _ := f7
    replace f8 : vals 8 = _ := f8
    replace f9 : vals 9 = _ := f9
    replace f10 : vals 10 = _ := f10
    replace f11 : vals 11 = _ := f11
    replace f12 : vals 12 = _ := f12
    replace f14 : vals 14 = _ := f14
    simp only [List.getD_cons_zero, List.getD_cons_succ, canonP, f0, f1, f2, f3, f4, f5, f7, f8, f9, f10, f11, f12, f14]
    clear f0 f1 f2 f3 f4 f5 f7 f8 f9 f10 f11 f12 f14
    try simp only [f6.1]
    try simp only [f13.1]
    simp only [Oper.gives]
    go_simp
    first | exact ⟨is_mk _ _, Touch.refl _ _⟩ | exact ⟨is_mk _ _, Touch.refl _ _, (fun _ _ _ _ h => h), (fun _ _ _ _ _ h => h)⟩ | (refine ⟨is_mk _ _, Touch.refl _ _, ?_⟩; repeat' first | assumption | exact ⟨_, by assumption⟩ | refine And.intro ?_ ?_ | intro _)
  intro vals wz hRwz hfwz
  simp only [AllFacts] at hfwz
  have g0 := hfwz.1
  replace hfwz := hfwz.2
  have g1 := hfwz.1
  replace hfwz := hfwz.2
  have g2 := hfwz.1
  replace hfwz := hfwz.2
  have g3 := hfwz.1
  replace hfwz := hfwz.2
  have g4 := hfwz.1
  replace hfwz := hfwz.2
  have g5 := hfwz.1
  replace hfwz := hfwz.2
  have g6 := hfwz.1
  replace hfwz := hfwz.2
  have g7 := hfwz.1
  replace hfwz := hfwz.2
  have g8 := hfwz.1
  replace hfwz := hfwz.2
  have g9 := hfwz.1
  replace hfwz := hfwz.2
  have g10 := hfwz.1
  replace hfwz := hfwz.2
  have g11 := hfwz.1
  replace hfwz := hfwz.2
  have g12 := hfwz.1
  replace hfwz := hfwz.2
  have g13 := hfwz.1
  replace hfwz := hfwz.2
  have g14 := hfwz.1
  replace hfwz := hfwz.2
  have g15 := hfwz.1
  replace hfwz := hfwz.2
  clear hfwz
  replace g0 : vals 0 = _ := g0
  replace g1 : vals 1 = _ := g1
  replace g2 : vals 2 = _ := g2
  replace g3 : vals 3 = _ := g3
  replace g4 : vals 4 = _ := g4
  replace g5 : vals 5 = _ := g5
  replace g7 : vals 7 = _ := g7
  replace g8 : vals 8 = _ := g8
  replace g9 : vals 9 = _ := g9
  replace g10 : vals 10 = _ := g10
  replace g11 : vals 11 = _ := g11
  replace g12 : vals 12 = _ := g12
  replace g14 : vals 14 = _ := g14
  replace g15 : vals 15 = _ := g15
  simp only [canonP, Act.put, List.setIfInBounds_toArray, List.set_cons_succ, List.set_cons_zero, g0, g1, g2, g3, g4, g5, g7, g8, g9, g10, g11, g12, g14, g15]
  clear g0 g1 g2 g3 g4 g5 g7 g8 g9 g10 g11 g12 g14 g15
  exact HK.out _ _ _ _ _ _ _ _ _ _ _ _ _ _ _ _ ((Touch.drew (S ++ T) W1).trans hRwz (fun i hi => .inl hi)) g13.2
#print axioms doesw_reg
end Go.Proofs.Ytkcbjhdklenlbaa
