/- The law DiskCrashes: a write is noted (region 14). -/
import Derived.Test.YtkcbjhdklenlbaaD30
set_option linter.unusedVariables false
set_option linter.unusedSimpArgs false
namespace Go.Proofs.Ytkcbjhdklenlbaa
open Go.RowKit

/-- a row of one element, newly made, apart from S -/
def OneAtE (t : TypeId) (S : List Nat) (W : World) (c : List Value) : Value → World → Prop := fun v w =>
  v = .slice (some ⟨v.ownBlock.getD 0, 0, none⟩) 1 1 ∧ w.heap[v.ownBlock.getD 0]? = some (.cells c.toArray t) ∧ v.ownBlock.getD 0 ∉ S ∧ W.heap.size ≤ v.ownBlock.getD 0
theorem OneAtE.touch {t : TypeId} {S T : List Nat} {W : World} {c : List Value} {v : Value} {w w' : World} (h : OneAtE t S W c v w) (ht : Touch T w w') (hT : ∀ k ∈ T, k ∈ S) : OneAtE t S W c v w' :=
  ⟨h.1, (ht.block _ (Array.getElem?_eq_some_iff.1 h.2.1).1 (fun hm => h.2.2.1 (hT _ hm))).trans h.2.1, h.2.2⟩
theorem OneAtE.grown {t : TypeId} {S : List Nat} {W : World} {c : List Value} {v : Value} {w w' : World} {row : Option Nat} (h : OneAtE t S W c v w) (hg : w.grownBy w' row) (hr : ∀ k, row = some k → k ∈ S) : OneAtE t S W c v w' :=
  h.touch (Touch.grown hg hr) (fun _ h => h)
/-- the row behind an append -/
def AppAtE (t : TypeId) (W : World) (vw : Value) (l : List (List Value)) : Value → World → Prop := fun v w =>
  Row w t 257 v l ∧ (v.ownBlock = vw.ownBlock ∨ ∃ g, v.ownBlock = some g ∧ W.heap.size ≤ g)
theorem built57 (parts : List (Nat × Value)) : Try.prog.built 57 parts = Instr.fill (fun i => ([(0, 1), (1, 256)] : List (Nat × Nat)).toArray[i]?) zeroW.toArray parts := by kernel_rfl
theorem built_wait (b : Nat) (x : Blk) (hx : x.length = 256) : Try.prog.built 57 [(0, .int .i64 (b : Int)), (1, .agg (bc x).toArray)] = some (wc (b, x)).toArray := by
  rw [built57, ← built76]; exact built_write b x hx
theorem info57 : (Try.prog.info? 57).map (fun i => (i.zero, i.size, i.bytes)) = some (some (.agg zeroW.toArray), 257, 264) := by kernel_rfl
theorem buildSlice_oneW (c : List Value) (hc : c.length = 257) (w : World) : (Instr.buildSlice 53 1 #[(0, .agg c.toArray)]).run Try.prog w = .ok (.slice (some ⟨w.heap.size, 0, none⟩) 1 1) (w.alloc (.cells c.toArray 57)) := by
  obtain ⟨i0, hi, hz0, hz1, hz2⟩ := info_parts info57
  have hfill : Instr.fill (fun i => some (i * 257, 257)) ((Array.range 257).map (zeroW.toArray[· % zeroW.toArray.size]!)) [(0, .agg c.toArray)] = some c.toArray := by
    rw [fill_cons (off := 0 * 257) (size := 257) rfl (by show c.toArray.size = 257; rw [List.size_toArray, hc]) (by simp), Instr.fill]
    congr 2
    rw [Nat.zero_mul]
    exact setMany_all _ _ (by show _ = c.toArray.toList.length; simp [hc])
  unfold Instr.buildSlice
  simp only [Sem.run_bind, run_underlying Try.underlying53, Result.andThen_ok, sizeOf, typeInfo, hi, hz1, zeroValue, hz0]
  simp [hi, hz1, hz0]
  rw [show (Value.agg zeroW.toArray).cells = zeroW.toArray from rfl, hfill]
  simp [newRow, go_sem]
noncomputable def crnCode : Code := regById 14 (codesOf (Try.f7.body.getD .skip))
set_option maxRecDepth 100000 in
set_option maxHeartbeats 2000000 in
theorem crn_reg (S : List Nat) (l : List (Nat × Blk)) (vw : Value) (y : Addr) (n cap i f b : Nat) (W1 : World) (HRW : Hid (Row W1 57 257 vw (l.map wc))) (HIW : Hid (∀ k, vw.ownBlock = some k → k ∈ S)) (HLT : Hid (∀ k ∈ S, k < W1.heap.size)) (HP1 : Hid (W1.cell? ((y.add (i * 4)).add 1) = some (.int .i64 (b : Int)))) (HP2 : Hid (W1.cell? ((y.add (i * 4)).add 2) = some (.int .u32 (f : Int)))) (HPL : Hid (y.block < W1.heap.size)) (HPS : Hid (y.block ∉ S)) (HF : Hid (f < 4294967296)) (hi : i < n)
    (HWS : Hid (l.length + 1 ≤ 1000000))
    (c0 c2 c3 c4 c5 c6 c7 c8 c11 c12 c13 c14 c15 c16 c17 c18 c19 c20 c21 c22 c23 c24 c25 c26 c27 c28 c29 c30 c31 c32 c33 c34 c35 c36 c37 c38 c39 c40 c41 c42 c43 c44 c45 c46 c47 c48 c49 c50 c51 c52 c53 c54 c55 c56 c57 c58 c59 c60 c61 c62 c63 c64 c65 c66 c67 c68 c69 c70 c71 c72 c73 c74 c75 c76 c77 c78 c79 c80 c81 c82 c83 c84 c85 c86 c87 c88 c89 c90 c91 c92 c93 c94 c95 c96 c97 c98 c99 c100 c101 c102 c103 c104 c105 c106 c107 c108 c109 c110 c111 c112 c113 c114 c115 c116 c117 c118 c119 c120 c121 c122 c123 c124 c125 c126 c127 c128 c129 c130 c131 c132 c133 c134 c135 c136 c137 c138 c139 c140 c141 c142 c143 c144 c145 c146 c147 c148 c149 c150 c151 c152 c153 c154 c155 c156 c157 c158 c159 c160 c161 c162 c163 c164 c165 c166 c167 c168 c169 c170 c171 c172 c173 c174 c175 c176 c177 c178 c179 c180 c181 c182 c183 c184 c185 c186 c187 c188 c189 c190 : Value) (Q : Exit → Act → World → Prop) (HK : Hid (∀ vw' u65 u66 u67 u68 u69 u70 u71 u72 u73 u74 u75 u76 u77 u78 u79 wz, Touch S W1 wz → AppAtE 57 W1 vw (l.map wc ++ [wc (b, fillB f)]) vw' wz → Q .normal ⟨(c0 :: .slice (some y) n cap :: c2 :: c3 :: c4 :: c5 :: c6 :: c7 :: c8 :: vw' :: .int .i64 (i : Int) :: c11 :: c12 :: c13 :: c14 :: c15 :: c16 :: c17 :: c18 :: c19 :: c20 :: c21 :: c22 :: c23 :: c24 :: c25 :: c26 :: c27 :: c28 :: c29 :: c30 :: c31 :: c32 :: c33 :: c34 :: c35 :: c36 :: c37 :: c38 :: c39 :: c40 :: c41 :: c42 :: c43 :: c44 :: c45 :: c46 :: c47 :: c48 :: c49 :: c50 :: c51 :: c52 :: c53 :: c54 :: c55 :: c56 :: c57 :: c58 :: c59 :: c60 :: c61 :: c62 :: c63 :: c64 :: u65 :: u66 :: u67 :: u68 :: u69 :: u70 :: u71 :: u72 :: u73 :: u74 :: u75 :: u76 :: u77 :: u78 :: u79 :: c80 :: c81 :: c82 :: c83 :: c84 :: c85 :: c86 :: c87 :: c88 :: c89 :: c90 :: c91 :: c92 :: c93 :: c94 :: c95 :: c96 :: c97 :: c98 :: c99 :: c100 :: c101 :: c102 :: c103 :: c104 :: c105 :: c106 :: c107 :: c108 :: c109 :: c110 :: c111 :: c112 :: c113 :: c114 :: c115 :: c116 :: c117 :: c118 :: c119 :: c120 :: c121 :: c122 :: c123 :: c124 :: c125 :: c126 :: c127 :: c128 :: c129 :: c130 :: c131 :: c132 :: c133 :: c134 :: c135 :: c136 :: c137 :: c138 :: c139 :: c140 :: c141 :: c142 :: c143 :: c144 :: c145 :: c146 :: c147 :: c148 :: c149 :: c150 :: c151 :: c152 :: c153 :: c154 :: c155 :: c156 :: c157 :: c158 :: c159 :: c160 :: c161 :: c162 :: c163 :: c164 :: c165 :: c166 :: c167 :: c168 :: c169 :: c170 :: c171 :: c172 :: c173 :: c174 :: c175 :: c176 :: c177 :: c178 :: c179 :: c180 :: c181 :: c182 :: c183 :: c184 :: c185 :: c186 :: c187 :: c188 :: c189 :: c190 :: []).toArray, []⟩ wz)) : crnCode.wp Try.prog Q ⟨(c0 :: .slice (some y) n cap :: c2 :: c3 :: c4 :: c5 :: c6 :: c7 :: c8 :: vw :: .int .i64 (i : Int) :: c11 :: c12 :: c13 :: c14 :: c15 :: c16 :: c17 :: c18 :: c19 :: c20 :: c21 :: c22 :: c23 :: c24 :: c25 :: c26 :: c27 :: c28 :: c29 :: c30 :: c31 :: c32 :: c33 :: c34 :: c35 :: c36 :: c37 :: c38 :: c39 :: c40 :: c41 :: c42 :: c43 :: c44 :: c45 :: c46 :: c47 :: c48 :: c49 :: c50 :: c51 :: c52 :: c53 :: c54 :: c55 :: c56 :: c57 :: c58 :: c59 :: c60 :: c61 :: c62 :: c63 :: c64 :: c65 :: c66 :: c67 :: c68 :: c69 :: c70 :: c71 :: c72 :: c73 :: c74 :: c75 :: c76 :: c77 :: c78 :: c79 :: c80 :: c81 :: c82 :: c83 :: c84 :: c85 :: c86 :: c87 :: c88 :: c89 :: c90 :: c91 :: c92 :: c93 :: c94 :: c95 :: c96 :: c97 :: c98 :: c99 :: c100 :: c101 :: c102 :: c103 :: c104 :: c105 :: c106 :: c107 :: c108 :: c109 :: c110 :: c111 :: c112 :: c113 :: c114 :: c115 :: c116 :: c117 :: c118 :: c119 :: c120 :: c121 :: c122 :: c123 :: c124 :: c125 :: c126 :: c127 :: c128 :: c129 :: c130 :: c131 :: c132 :: c133 :: c134 :: c135 :: c136 :: c137 :: c138 :: c139 :: c140 :: c141 :: c142 :: c143 :: c144 :: c145 :: c146 :: c147 :: c148 :: c149 :: c150 :: c151 :: c152 :: c153 :: c154 :: c155 :: c156 :: c157 :: c158 :: c159 :: c160 :: c161 :: c162 :: c163 :: c164 :: c165 :: c166 :: c167 :: c168 :: c169 :: c170 :: c171 :: c172 :: c173 :: c174 :: c175 :: c176 :: c177 :: c178 :: c179 :: c180 :: c181 :: c182 :: c183 :: c184 :: c185 :: c186 :: c187 :: c188 :: c189 :: c190 :: []).toArray, []⟩ W1 := by
  obtain ⟨i0, hi0, hz0, hz1, hz2⟩ := info_parts info57
  have HI := Lib.hid hi0
  clear hi0
  have HBW := Lib.hid (built_wait b (fillB f) (fillB_length f))
  have HWL := Lib.hid (wc_length (b, fillB f) (fillB_length f))
  have HB0 := Lib.hid (show (0 : Int) ≤ (i : Int) by omega)
  have HB1 := Lib.hid (show (i : Int) < (n : Int) by omega)
  have HN0 := Lib.hid (show ∀ p ∈ ([(14, fun wx => Row wx 57 257 vw (l.map wc))] : List (Nat × (World → Prop))), p.2 W1.drew by
    intro p hp
    rw [List.mem_singleton] at hp
    subst hp
    exact HRW.out.kept (Touch.drew [] W1) (by simp))
  conv => arg 2; whnf
  refine wp_region_factsN [13, 14, 15] [(14, fun wx => Row wx 57 257 vw (l.map wc))] (by kernel_rfl) [[], [], [], [(1, some 66), (2, some 67)], [(3, some 68)], [(4, some 69)], [], [], [(6, some 71), (7, some 72)], [(8, some 73)], [(9, some 74)], [(10, some 75)], [(5, some 70), (11, some 76)], [(12, some 77)], [(0, some 65), (11, some 76), (13, some 78)], [(0, some 65), (1, some 66), (2, some 67), (3, some 68), (4, some 69), (5, some 70), (6, some 71), (7, some 72), (8, some 73), (9, some 74), (10, some 75), (11, some 76), (12, some 77), (13, some 78), (14, some 79)]] [(0, some 65), (1, some 66), (2, some 67), (3, some 68), (4, some 69), (5, some 70), (6, some 71), (7, some 72), (8, some 73), (9, some 74), (10, some 75), (11, some 76), (12, some 77), (13, some 78), (14, some 79), (15, some 9)] (by kernel_rfl) (by kernel_rfl) (by kernel_rfl) (Touch S) (Touch.refl S) (fun _ _ _ h h' => h.trans h' (fun i hi => .inl hi)) [Is (vw), Is (Value.slice (some y) n cap), Is (Value.int .i64 (i : Int)), Is (Value.pointer (some (y.add (i * 4)))), Is (Value.pointer (some ((y.add (i * 4)).add 1))), Is (Value.int .i64 (b : Int)), Is (Value.slice (some y) n cap), Is (Value.int .i64 (i : Int)), Is (Value.pointer (some (y.add (i * 4)))), Is (Value.pointer (some ((y.add (i * 4)).add 2))), Is (Value.int .u32 (f : Int)), Is (Value.agg (bc (fillB f)).toArray), Is (Value.agg (wc (b, fillB f)).toArray), OneAtE 57 S W1 (wc (b, fillB f)), AppAtE 57 W1 vw (l.map wc ++ [wc (b, fillB f)]), AppAtE 57 W1 vw (l.map wc ++ [wc (b, fillB f)])] rfl ⟨.inr (is_stab _ _), .inr (is_stab _ _), .inr (is_stab _ _), .inr (is_stab _ _), .inr (is_stab _ _), .inr (is_stab _ _), .inr (is_stab _ _), .inr (is_stab _ _), .inr (is_stab _ _), .inr (is_stab _ _), .inr (is_stab _ _), .inr (is_stab _ _), .inr (is_stab _ _), .inl (by simp), .inl (by simp), .inl (by simp), trivial⟩ HN0.out ⟨?o0, ?o1, ?o2, ?o3, ?o4, ?o5, ?o6, ?o7, ?o8, ?o9, ?o10, ?o11, ?o12, ?o13, ?o14, ?o15, trivial⟩ ?_
  case o0 =>
    intro vals wq hRq hNq hpq
    simp only [List.getD_cons_zero, List.getD_cons_succ, canonP]
    simp only [Oper.gives]
    go_simp
    first | exact ⟨is_mk _ _, (Touch.refl S) _⟩ | exact ⟨is_mk _ _, (Touch.refl S) _, (fun _ _ _ _ h => h), (fun _ _ _ _ _ h => h)⟩
  case o1 =>
    intro vals wq hRq hNq hpq
    simp only [List.getD_cons_zero, List.getD_cons_succ, canonP]
    simp only [Oper.gives]
    go_simp
    first | exact ⟨is_mk _ _, (Touch.refl S) _⟩ | exact ⟨is_mk _ _, (Touch.refl S) _, (fun _ _ _ _ h => h), (fun _ _ _ _ _ h => h)⟩
  case o2 =>
    intro vals wq hRq hNq hpq
    simp only [List.getD_cons_zero, List.getD_cons_succ, canonP]
    simp only [Oper.gives]
    go_simp
    first | exact ⟨is_mk _ _, (Touch.refl S) _⟩ | exact ⟨is_mk _ _, (Touch.refl S) _, (fun _ _ _ _ h => h), (fun _ _ _ _ _ h => h)⟩
  case o3 =>
    intro vals wq hRq hNq hpq
    simp only [factsP, List.getD_cons_zero, List.getD_cons_succ] at hpq
    have f1 := hpq.1
    replace hpq := hpq.2
    have f2 := hpq.1
    replace hpq := hpq.2
    clear hpq
    replace f1 : vals 1 = _ := f1
    replace f2 : vals 2 = _ := f2
    simp only [List.getD_cons_zero, List.getD_cons_succ, canonP, f1, f2]
    clear f1 f2
    have b0 := HB0.out
    have b1 := HB1.out
    simp only [Oper.gives]
    go_simp
    first | exact ⟨is_mk _ _, Touch.refl _ _⟩ | exact ⟨is_mk _ _, Touch.refl _ _, (fun _ _ _ _ h => h), (fun _ _ _ _ _ h => h)⟩
  case o4 =>
    intro vals wq hRq hNq hpq
    simp only [factsP, List.getD_cons_zero, List.getD_cons_succ] at hpq
    have f3 := hpq.1
    replace hpq := hpq.2
    clear hpq
    replace f3 : vals 3 = _ := f3
    simp only [List.getD_cons_zero, List.getD_cons_succ, canonP, f3]
    clear f3
    simp only [Oper.gives]
    go_simp
    first | exact ⟨is_mk _ _, (Touch.refl S) _⟩ | exact ⟨is_mk _ _, (Touch.refl S) _, (fun _ _ _ _ h => h), (fun _ _ _ _ _ h => h)⟩
  case o5 =>
    intro vals wq hRq hNq hpq
    simp only [factsP, List.getD_cons_zero, List.getD_cons_succ] at hpq
    have f4 := hpq.1
    replace hpq := hpq.2
    clear hpq
    replace f4 : vals 4 = _ := f4
    simp only [List.getD_cons_zero, List.getD_cons_succ, canonP, f4]
    clear f4
    have hcc : wq.cell? ⟨(y.add (i * 4)).block, (y.add (i * 4)).off + 1, none⟩ = some (.int .i64 (b : Int)) := (hRq.cell (a := (y.add (i * 4)).add 1) (by rw [add_block, add_block]; exact HPL.out) (by rw [add_block, add_block]; exact HPS.out)).trans HP1.out
    simp only [Oper.gives]
    go_simp
    first | exact ⟨is_mk _ _, Touch.refl _ _⟩ | exact ⟨is_mk _ _, Touch.refl _ _, (fun _ _ _ _ h => h), (fun _ _ _ _ _ h => h)⟩
  case o6 =>
    intro vals wq hRq hNq hpq
    simp only [List.getD_cons_zero, List.getD_cons_succ, canonP]
    simp only [Oper.gives]
    go_simp
    first | exact ⟨is_mk _ _, (Touch.refl S) _⟩ | exact ⟨is_mk _ _, (Touch.refl S) _, (fun _ _ _ _ h => h), (fun _ _ _ _ _ h => h)⟩
  case o7 =>
    intro vals wq hRq hNq hpq
    simp only [List.getD_cons_zero, List.getD_cons_succ, canonP]
    simp only [Oper.gives]
    go_simp
    first | exact ⟨is_mk _ _, (Touch.refl S) _⟩ | exact ⟨is_mk _ _, (Touch.refl S) _, (fun _ _ _ _ h => h), (fun _ _ _ _ _ h => h)⟩
  case o8 =>
    intro vals wq hRq hNq hpq
    simp only [factsP, List.getD_cons_zero, List.getD_cons_succ] at hpq
    have f6 := hpq.1
    replace hpq := hpq.2
    have f7 := hpq.1
    replace hpq := hpq.2
    clear hpq
    replace f6 : vals 6 = _ := f6
    replace f7 : vals 7 = _ := f7
    simp only [List.getD_cons_zero, List.getD_cons_succ, canonP, f6, f7]
    clear f6 f7
    have b0 := HB0.out
    have b1 := HB1.out
    simp only [Oper.gives]
    go_simp
    first | exact ⟨is_mk _ _, Touch.refl _ _⟩ | exact ⟨is_mk _ _, Touch.refl _ _, (fun _ _ _ _ h => h), (fun _ _ _ _ _ h => h)⟩
  case o9 =>
    intro vals wq hRq hNq hpq
    simp only [factsP, List.getD_cons_zero, List.getD_cons_succ] at hpq
    have f8 := hpq.1
    replace hpq := hpq.2
    clear hpq
    replace f8 : vals 8 = _ := f8
    simp only [List.getD_cons_zero, List.getD_cons_succ, canonP, f8]
    clear f8
    simp only [Oper.gives]
    go_simp
    first | exact ⟨is_mk _ _, (Touch.refl S) _⟩ | exact ⟨is_mk _ _, (Touch.refl S) _, (fun _ _ _ _ h => h), (fun _ _ _ _ _ h => h)⟩
  case o10 =>
    intro vals wq hRq hNq hpq
    simp only [factsP, List.getD_cons_zero, List.getD_cons_succ] at hpq
    have f9 := hpq.1
    replace hpq := hpq.2
    clear hpq
    replace f9 : vals 9 = _ := f9
    simp only [List.getD_cons_zero, List.getD_cons_succ, canonP, f9]
    clear f9
    have hcc : wq.cell? ⟨(y.add (i * 4)).block, (y.add (i * 4)).off + 2, none⟩ = some (.int .u32 (f : Int)) := (hRq.cell (a := (y.add (i * 4)).add 2) (by rw [add_block, add_block]; exact HPL.out) (by rw [add_block, add_block]; exact HPS.out)).trans HP2.out
    simp only [Oper.gives]
    go_simp
    first | exact ⟨is_mk _ _, Touch.refl _ _⟩ | exact ⟨is_mk _ _, Touch.refl _ _, (fun _ _ _ _ h => h), (fun _ _ _ _ _ h => h)⟩
  case o11 =>
    intro vals wq hRq hNq hpq
    simp only [factsP, List.getD_cons_zero, List.getD_cons_succ] at hpq
    have f10 := hpq.1
    replace hpq := hpq.2
    clear hpq
    replace f10 : vals 10 = _ := f10
    simp only [List.getD_cons_zero, List.getD_cons_succ, canonP, f10]
    clear f10
    simp only [Oper.gives]
    go_simp
    refine (fill_any f HF.out wq).mono ?_
    intro e w' hh
    exact ⟨_, hh.1, is_mk _ _, Touch.of_below hh.2, fun h => Row.kept h (Touch.of_below (S := []) hh.2) (by simp), fun u hu => OneAtE.touch hu (Touch.of_below (S := []) hh.2) (by simp)⟩
  case o12 =>
    intro vals wq hRq hNq hpq
    simp only [factsP, List.getD_cons_zero, List.getD_cons_succ] at hpq
    have f5 := hpq.1
    replace hpq := hpq.2
    have f11 := hpq.1
    replace hpq := hpq.2
    clear hpq
    replace f5 : vals 5 = _ := f5
    replace f11 : vals 11 = _ := f11
    simp only [List.getD_cons_zero, List.getD_cons_succ, canonP, f5, f11]
    clear f5 f11
    rw [if_pos (by rfl)]
    exact gives_build 57 _ rfl (wc (b, fillB f)).toArray (by simp only [List.map_toArray, List.map_cons, List.map_nil]; exact HBW.out) ⟨is_mk _ _, Touch.refl _ _, (fun _ _ _ _ h => h), (fun _ _ _ _ _ h => h)⟩
  case o13 =>
    intro vals wq hRq hNq hpq
    simp only [factsP, List.getD_cons_zero, List.getD_cons_succ] at hpq
    have f12 := hpq.1
    replace hpq := hpq.2
    clear hpq
    replace f12 : vals 12 = _ := f12
    simp only [List.getD_cons_zero, List.getD_cons_succ, canonP, f12]
    clear f12
    have hsz : W1.heap.size ≤ wq.heap.size := hRq.size
    rw [if_pos (by rfl)]
    refine gives_buildSlice 53 1 _ rfl (v := .slice (some ⟨wq.heap.size, 0, none⟩) 1 1) (w' := wq.alloc (.cells (wc (b, fillB f)).toArray 57)) (by simp only [List.map_toArray, List.map_cons, List.map_nil]; exact buildSlice_oneW (wc (b, fillB f)) HWL.out wq) ⟨⟨rfl, heap_alloc_last _ _, (fun hm => by have := HLT.out _ hm; simp only [Value.ownBlock, Option.getD_some] at this; omega), hsz⟩, Touch.alloc _ _ _, ?_, ?_⟩
    · intro p hp _ _ h; rw [List.mem_singleton] at hp; subst hp; exact Row.kept h (Touch.alloc [] wq _) (by simp)
    · intro k hk hne hnp; exact absurd hk (by intro hk; simp at hk; rcases hk with rfl | rfl | rfl <;> first | exact hne rfl | exact hnp (by simp))
  case o14 =>
    intro vals wq hRq hNq hpq
    simp only [factsP, List.getD_cons_zero, List.getD_cons_succ] at hpq
    have f0 := hpq.1
    replace hpq := hpq.2
    have f11 := hpq.1
    replace hpq := hpq.2
    have f13 := hpq.1
    replace hpq := hpq.2
    clear hpq
    replace f0 : vals 0 = _ := f0
    replace f11 : vals 11 = _ := f11
    simp only [List.getD_cons_zero, List.getD_cons_succ, canonP, f0, f11]
    clear f0 f11
    have hrow : Row wq 57 257 vw (l.map wc) := hNq (14, fun wx => Row wx 57 257 vw (l.map wc)) (List.Mem.head _) rfl
    have hsz : W1.heap.size ≤ wq.heap.size := hRq.size
    rw [if_pos (by rfl)]
    refine gives_append _ _ 53 rfl 57 i0 (.agg zeroW.toArray) 257 264 Try.underlying53 HI.out hz0 hz1 hz2 (by show zeroW.toArray.size = 257; rw [List.size_toArray, zeroW_len]) (by omega) vw (l.map wc) rfl hrow _ 1 (wc (b, fillB f)) f13.1 HWL.out (cells_add f13.2.1) (wc_one _) (by rw [List.length_map]; exact HWS.out) (by omega) ?_
    intro v' w' hrow' hg hown hne
    refine ⟨⟨hrow', ?_⟩, Touch.grown hg HIW.out, ?_, ?_⟩
    · rcases hown with h | h; exact .inl h; exact .inr ⟨_, h, hsz⟩
    · intro p hp; rw [List.mem_singleton] at hp; subst hp; intro hn; exact absurd rfl hn
    · intro k hk hne hnp u hu; simp only [List.mem_cons, List.not_mem_nil, or_false] at hk; rcases hk with rfl | rfl | rfl
      · exact OneAtE.grown hu hg HIW.out
      · exact absurd rfl hne
      · exact absurd (by simp) hnp
  case o15 =>
    intro vals wq hRq hNq hpq
    simp only [factsP, List.getD_cons_zero, List.getD_cons_succ] at hpq
    have f0 := hpq.1
    replace hpq := hpq.2
    have f1 := hpq.1
    replace hpq := hpq.2
    have f2 := hpq.1
    replace hpq := hpq.2
    have f3 := hpq.1
    replace hpq := hpq.2
    have f4 := hpq.1
    replace hpq := hpq.2
    have f5 := hpq.1
    replace hpq := hpq.2
    have f6 := hpq.1
    replace hpq := hpq.2
    have f7 := hpq.1
    replace hpq := hpq.2
    have f8 := hpq.1
    replace hpq := hpq.2
    have f9 := hpq.1
    replace hpq := hpq.2
    have f10 := hpq.1
    replace hpq := hpq.2
    have f11 := hpq.1
    replace hpq := hpq.2
    have f12 := hpq.1
    replace hpq := hpq.2
    have f13 := hpq.1
    replace hpq := hpq.2
    have f14 := hpq.1
    replace hpq := hpq.2
    clear hpq
    replace f0 : vals 0 = _ := f0
    replace f1 : vals 1 = _ := f1
    replace f2 : vals 2 = _ := f2
    replace f3 : vals 3 = _ := f3
    replace f4 : vals 4 = _ := f4
    replace f5 : vals 5 = _ := f5
    replace f6 : vals 6 = _ := f6
    replace f7 : vals 7 = _ := f7
    replace f8 : vals 8 = _ := f8
    replace f9 : vals 9 = _ := f9
    replace f10 : vals 10 = _ := f10
    replace f11 : vals 11 = _ := f11
    replace f12 : vals 12 = _ := f12
    simp only [List.getD_cons_zero, List.getD_cons_succ, canonP, f0, f1, f2, f3, f4, f5, f6, f7, f8, f9, f10, f11, f12]
    clear f0 f1 f2 f3 f4 f5 f6 f7 f8 f9 f10 f11 f12
    simp only [Oper.gives]
    go_simp
    first | exact ⟨f14, Touch.refl _ _, (fun _ _ _ _ h => h), (fun _ _ _ _ _ h => h)⟩ | exact ⟨f14, Touch.refl _ _⟩ | exact Touch.refl _ _ | exact ⟨Touch.refl _ _, (fun _ _ _ _ h => h), (fun _ _ _ _ _ h => h)⟩
  intro vals wz hRwz hfwz
  simp only [AllFacts] at hfwz
  have g0 := hfwz.1
  replace hfwz := hfwz.2
  have g1 := hfwz.1
  replace hfwz := hfwz.2
  have g2 := hfwz.1
  replace hfwz := hfwz.2
  have g3 := hfwz.1
  replace hfwz := hfwz.2
  have g4 := hfwz.1
  replace hfwz := hfwz.2
  have g5 := hfwz.1
  replace hfwz := hfwz.2
  have g6 := hfwz.1
  replace hfwz := hfwz.2
  have g7 := hfwz.1
  replace hfwz := hfwz.2
  have g8 := hfwz.1
  replace hfwz := hfwz.2
  have g9 := hfwz.1
  replace hfwz := hfwz.2
  have g10 := hfwz.1
  replace hfwz := hfwz.2
  have g11 := hfwz.1
  replace hfwz := hfwz.2
  have g12 := hfwz.1
  replace hfwz := hfwz.2
  have g13 := hfwz.1
  replace hfwz := hfwz.2
  have g14 := hfwz.1
  replace hfwz := hfwz.2
  have g15 := hfwz.1
  replace hfwz := hfwz.2
  clear hfwz
  replace g0 : vals 0 = _ := g0
  replace g1 : vals 1 = _ := g1
  replace g2 : vals 2 = _ := g2
  replace g3 : vals 3 = _ := g3
  replace g4 : vals 4 = _ := g4
  replace g5 : vals 5 = _ := g5
  replace g6 : vals 6 = _ := g6
  replace g7 : vals 7 = _ := g7
  replace g8 : vals 8 = _ := g8
  replace g9 : vals 9 = _ := g9
  replace g10 : vals 10 = _ := g10
  replace g11 : vals 11 = _ := g11
  replace g12 : vals 12 = _ := g12
  simp only [canonP, Act.put, List.setIfInBounds_toArray, List.set_cons_succ, List.set_cons_zero, g0, g1, g2, g3, g4, g5, g6, g7, g8, g9, g10, g11, g12]
  clear g0 g1 g2 g3 g4 g5 g6 g7 g8 g9 g10 g11 g12 g13
  exact HK.out _ _ _ _ _ _ _ _ _ _ _ _ _ _ _ _ _ ((Touch.drew S W1).trans hRwz (fun i hi => .inl hi)) g15
#print axioms crn_reg
end Go.Proofs.Ytkcbjhdklenlbaa
