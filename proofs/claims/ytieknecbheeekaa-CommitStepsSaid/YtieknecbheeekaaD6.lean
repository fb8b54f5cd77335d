/- Disk.Write: a write is appended to those that wait. -/
import Derived.Test.YtieknecbheeekaaD5
set_option linter.unusedVariables false
set_option linter.unusedSimpArgs false
namespace Go.Proofs.Ytieknecbheeekaa
open Go.RowKit

/-- a row of one element, newly made, apart from S -/
def OneAt (S : List Nat) (W : World) (c : List Value) : Value → World → Prop := fun v w =>
  v = .slice (some ⟨v.ownBlock.getD 0, 0, none⟩) 1 1 ∧ w.heap[v.ownBlock.getD 0]? = some (.cells c.toArray 93) ∧ v.ownBlock.getD 0 ∉ S ∧ W.heap.size ≤ v.ownBlock.getD 0
theorem OneAt.touch {S T : List Nat} {W : World} {c : List Value} {v : Value} {w w' : World} (h : OneAt S W c v w) (ht : Touch T w w') (hT : ∀ k ∈ T, k ∈ S) : OneAt S W c v w' :=
  ⟨h.1, (ht.block _ (Array.getElem?_eq_some_iff.1 h.2.1).1 (fun hm => h.2.2.1 (hT _ hm))).trans h.2.1, h.2.2⟩
theorem OneAt.grown {S : List Nat} {W : World} {c : List Value} {v : Value} {w w' : World} {row : Option Nat} (h : OneAt S W c v w) (hg : w.grownBy w' row) (hr : ∀ k, row = some k → k ∈ S) : OneAt S W c v w' :=
  h.touch (Touch.grown hg hr) (fun _ h => h)
/-- the row behind an append -/
def AppAt (W : World) (vw : Value) (l : List (List Value)) : Value → World → Prop := fun v w =>
  Row w 93 257 v l ∧ (v.ownBlock = vw.ownBlock ∨ ∃ g, v.ownBlock = some g ∧ W.heap.size ≤ g)
theorem AppAt.ne {W : World} {vw : Value} {l : List (List Value)} {v : Value} {w : World} {B : Nat} (h : AppAt W vw l v w) (hb : ∀ g, vw.ownBlock = some g → g ≠ B) (hB : B < W.heap.size) {g : Nat} (hg : v.ownBlock = some g) : g ≠ B := by
  rcases h.2 with h1 | ⟨g', h1, h2⟩
  · exact hb g (h1 ▸ hg)
  · rw [hg] at h1; cases h1; omega
/-- the object with the new row -/
def DoneAt (W : World) (B : Nat) (vs vl : Value) (d : DS) (vw : Value) (l : List (List Value)) : Value → World → Prop := fun _ w =>
  ∃ v, w.heap[B]? = some (dObj vs vl v d) ∧ AppAt W vw l v w
theorem keepN {w w' : World} {B : Nat} {vs vl vw : Value} {d : DS} {L : Nat} (hB : B < L) (hW : ∀ g, vw.ownBlock = some g → g < L) (hL : L ≤ w.heap.size) {T : List Nat} (ht : Touch T w w') (hTB : B ∉ T) (hTW : ∀ g, vw.ownBlock = some g → g ∉ T) {j : Nat} {pj : List Nat} :
    ∀ p ∈ ([(4, fun wx => wx.cell? ⟨B, 2, none⟩ = some vw), (9, fun wx => Row wx 93 257 vw (d.ws.map wc)), (12, fun wx => wx.heap[B]? = some (dObj vs vl vw d))] : List (Nat × (World → Prop))), p.1 ≠ j → p.1 ∉ pj → p.2 w → p.2 w' := by
  intro p hp _ _ h
  simp only [List.mem_cons, List.not_mem_nil, or_false] at hp
  rcases hp with rfl | rfl | rfl
  · exact (ht.cell (a := ⟨B, 2, none⟩) (by simp; omega) hTB).trans h
  · exact Row.kept h ht hTW
  · exact (ht.block B (by omega) hTB).trans h
theorem cells_add {w : World} {g : Nat} {c : List Value} {t : TypeId} (h : w.heap[g]? = some (.cells c.toArray t)) : ∀ j u, c[j]? = some u → w.cell? ((⟨g, 0, none⟩ : Addr).add j) = some u := by
  intro j u hj
  rw [Addr.add_mid, Nat.zero_add, cell_at h]
  simpa using hj
theorem rowSlice {w : World} {e sz : Nat} {v : Value} {l : List (List Value)} (h : Row w e sz v l) : ∃ p n c, v = .slice p n c := by
  obtain ⟨a, c, h⟩ := h.len
  exact ⟨a, _, c, h⟩
theorem store66 (w : World) (B : Nat) (u : Value) (p : Option Addr) (l c : Nat) (hc : w.cell? ⟨B, 2, none⟩ = some u) (hf : w.frozen? ⟨B, 2, none⟩ = false) : (Instr.storeAt 66 (.pointer (some ⟨B, 2, none⟩)) (.slice p l c)).run Try.prog w = .ok () (w.setCell ⟨B, 2, none⟩ (.slice p l c)) := by
  go_simp
theorem gives_store66 {o : Oper} {a : Act} {T : Value → World → Prop} (w : World) (B : Nat) (u v : Value) {x y : Operand} (ho : o.op = .store 66 x y) (hx : a.eval x = .pointer (some ⟨B, 2, none⟩)) (hy : a.eval y = v) (hc : w.cell? ⟨B, 2, none⟩ = some u) (hf : w.frozen? ⟨B, 2, none⟩ = false)
    (hv : ∃ p l c, v = .slice p l c) (hT : T undef (w.setCell ⟨B, 2, none⟩ v)) : Oper.gives Try.prog o a w T := by
  obtain ⟨p, l, c, rfl⟩ := hv
  unfold Oper.gives execOp
  simp only [ho, hx, hy, Sem.run_bind, store66 w B u p l c hc hf, Result.andThen_ok, Sem.run_pure]
  exact hT

def codesOf : Code → List Code
  | .loop c => codesOf c
  | .seq a b => codesOf a ++ codesOf b
  | .block _ c => codesOf c
  | .scope c => codesOf c
  | .cond _ a b => codesOf a ++ codesOf b
  | .region i o b => [.region i o b]
  | _ => []
noncomputable def writeReg4 : Code := ((codesOf (Try.f41.body.getD .skip)).getD 4 .skip)
set_option maxRecDepth 100000 in
set_option maxHeartbeats 2000000 in
theorem write_reg4 (B Bx b : Nat) (x : Blk) (S : List Nat) (d : DS) (vs vl vw : Value) (W1 : World) (HX : Hid (W1.heap[Bx]? = some (.cells (bc x).toArray 44))) (HXL : Hid (Bx < W1.heap.size)) (HXS : Hid (Bx ∉ S)) (HXl : Hid (x.length = 256))
    (HOB : Hid (W1.heap[B]? = some (dObj vs vl vw d))) (HRW : Hid (Row W1 93 257 vw (d.ws.map wc))) (HLT : Hid (∀ k ∈ S, k < W1.heap.size)) (HIB : Hid (B ∈ S)) (HIW : Hid (∀ k, vw.ownBlock = some k → k ∈ S)) (HBW2 : Hid (∀ g, vw.ownBlock = some g → g ≠ B)) (HWS : Hid (d.ws.length + 1 ≤ 1000000))
    (c2 c3 c4 c6 c7 c8 c9 c10 c11 c12 c13 c14 c15 c16 c17 c18 c19 c20 c21 c22 c23 c24 c25 c26 c27 c28 c29 c30 c31 c32 c33 c34 : Value) (Q : Exit → Act → World → Prop) (HK : Hid (∀ u14 u15 u16 u17 u18 u19 u20 u21 u22 u23 u24 u25 wz, Touch S W1 wz → DoneAt W1 B vs vl d vw (d.ws.map wc ++ [wc (b, x)]) undef wz → Q .normal ⟨(.pointer (some ⟨B, 0, none⟩) :: .int .i64 (b : Int) :: c2 :: c3 :: c4 :: .pointer (some ⟨Bx, 0, none⟩) :: c6 :: c7 :: c8 :: c9 :: c10 :: c11 :: c12 :: c13 :: u14 :: u15 :: u16 :: u17 :: u18 :: u19 :: u20 :: u21 :: u22 :: u23 :: u24 :: u25 :: c26 :: c27 :: c28 :: c29 :: c30 :: c31 :: c32 :: c33 :: c34 :: []).toArray, []⟩ wz)) : writeReg4.wp Try.prog Q ⟨(.pointer (some ⟨B, 0, none⟩) :: .int .i64 (b : Int) :: c2 :: c3 :: c4 :: .pointer (some ⟨Bx, 0, none⟩) :: c6 :: c7 :: c8 :: c9 :: c10 :: c11 :: c12 :: c13 :: c14 :: c15 :: c16 :: c17 :: c18 :: c19 :: c20 :: c21 :: c22 :: c23 :: c24 :: c25 :: c26 :: c27 :: c28 :: c29 :: c30 :: c31 :: c32 :: c33 :: c34 :: []).toArray, []⟩ W1 := by
  obtain ⟨i0, hi, hz0, hz1, hz2⟩ := info_parts info76
  have HI := Lib.hid hi
  clear hi
  have HSz := Lib.hid (show (Try.prog.info? 44).map (·.size) = some (bc x).toArray.size by rw [List.size_toArray, bc_length, HXl.out]; exact size32)
  have HBW := Lib.hid (built_write b x HXl.out)
  have HWL := Lib.hid (wc_length (b, x) HXl.out)
  have HLB := Lib.hid (HLT.out B HIB.out)
  have HLW := Lib.hid (fun g hg => HLT.out g (HIW.out g hg))
  have HSW := Lib.hid (Nat.le_refl W1.heap.size)
  have HN0 := Lib.hid (show ∀ p ∈ ([(4, fun wx => wx.cell? ⟨B, 2, none⟩ = some vw), (9, fun wx => Row wx 93 257 vw (d.ws.map wc)), (12, fun wx => wx.heap[B]? = some (dObj vs vl vw d))] : List (Nat × (World → Prop))), p.2 W1.drew by
    intro p hp
    simp only [List.mem_cons, List.not_mem_nil, or_false] at hp
    rcases hp with rfl | rfl | rfl
    · exact cell_at HOB.out 2
    · exact HRW.out.kept (Touch.drew [] W1) (by simp)
    · exact HOB.out)
  conv => arg 2; whnf
  refine wp_region_factsN [8, 9, 12] [(4, fun wx => wx.cell? ⟨B, 2, none⟩ = some vw), (9, fun wx => Row wx 93 257 vw (d.ws.map wc)), (12, fun wx => wx.heap[B]? = some (dObj vs vl vw d))] (by kernel_rfl) [[], [], [(1, some 15)], [(2, some 16)], [(3, some 17)], [], [], [(5, some 19), (6, some 20)], [(7, some 21)], [(4, some 18), (8, some 22)], [(0, some 14), (1, some 15), (2, some 16), (3, some 17), (4, some 18), (5, some 19), (6, some 20), (7, some 21), (8, some 22), (9, some 23)], [(0, some 14), (1, some 15), (2, some 16), (3, some 17), (4, some 18), (5, some 19), (6, some 20), (7, some 21), (8, some 22), (9, some 23), (10, some 24)], [(0, some 14), (1, some 15), (2, some 16), (3, some 17), (4, some 18), (5, some 19), (6, some 20), (7, some 21), (8, some 22), (9, some 23), (11, some 25)]] [(0, some 14), (1, some 15), (2, some 16), (3, some 17), (4, some 18), (5, some 19), (6, some 20), (7, some 21), (8, some 22), (9, some 23), (10, some 24), (11, some 25), (12, none)] (by kernel_rfl) (by kernel_rfl) (by kernel_rfl) (Touch S) (Touch.refl S) (fun _ _ _ h h' => h.trans h' (fun i hi => .inl hi)) [Is (Value.pointer (some ⟨B, 0, none⟩)), Is (Value.pointer (some ⟨B, 0, none⟩)), Is (Value.pointer (some ⟨B, 0, none⟩)), Is (Value.pointer (some ⟨B, 2, none⟩)), Is (vw), Is (Value.int .i64 (b : Int)), Is (Value.agg (bc x).toArray), Is (Value.agg (wc (b, x)).toArray), OneAt S W1 (wc (b, x)), AppAt W1 vw (d.ws.map wc ++ [wc (b, x)]), Is (Value.pointer (some ⟨B, 0, none⟩)), Is (Value.pointer (some ⟨B, 2, none⟩)), DoneAt W1 B vs vl d vw (d.ws.map wc ++ [wc (b, x)])] rfl ⟨.inr (is_stab _ _), .inr (is_stab _ _), .inr (is_stab _ _), .inr (is_stab _ _), .inr (is_stab _ _), .inr (is_stab _ _), .inr (is_stab _ _), .inr (is_stab _ _), .inl (by simp), .inl (by simp), .inr (is_stab _ _), .inr (is_stab _ _), .inl (by simp), trivial⟩ HN0.out ⟨?o0, ?o1, ?o2, ?o3, ?o4, ?o5, ?o6, ?o7, ?o8, ?o9, ?o10, ?o11, ?o12, trivial⟩ ?_
  case o0 =>
    intro vals wq hRq hNq hpq
    simp only [List.getD_cons_zero, List.getD_cons_succ, canonP]
    simp only [Oper.gives]
    go_simp
    first | exact ⟨is_mk _ _, (Touch.refl S) _⟩ | exact ⟨is_mk _ _, (Touch.refl S) _, (fun _ _ _ _ h => h), (fun _ _ _ _ _ h => h)⟩
  case o1 =>
    intro vals wq hRq hNq hpq
    simp only [List.getD_cons_zero, List.getD_cons_succ, canonP]
    simp only [Oper.gives]
    go_simp
    first | exact ⟨is_mk _ _, (Touch.refl S) _⟩ | exact ⟨is_mk _ _, (Touch.refl S) _, (fun _ _ _ _ h => h), (fun _ _ _ _ _ h => h)⟩
  case o2 =>
    intro vals wq hRq hNq hpq
    simp only [factsP, List.getD_cons_zero, List.getD_cons_succ] at hpq
    have f1 := hpq.1
    replace hpq := hpq.2
    clear hpq
    replace f1 : vals 1 = _ := f1
    simp only [List.getD_cons_zero, List.getD_cons_succ, canonP, f1]
    clear f1
    simp only [Oper.gives]
    go_simp
    first | exact ⟨is_mk _ _, (Touch.refl S) _⟩ | exact ⟨is_mk _ _, (Touch.refl S) _, (fun _ _ _ _ h => h), (fun _ _ _ _ _ h => h)⟩
  case o3 =>
    intro vals wq hRq hNq hpq
    simp only [factsP, List.getD_cons_zero, List.getD_cons_succ] at hpq
    have f2 := hpq.1
    replace hpq := hpq.2
    clear hpq
    replace f2 : vals 2 = _ := f2
    simp only [List.getD_cons_zero, List.getD_cons_succ, canonP, f2]
    clear f2
    simp only [Oper.gives]
    go_simp
    first | exact ⟨is_mk _ _, (Touch.refl S) _⟩ | exact ⟨is_mk _ _, (Touch.refl S) _, (fun _ _ _ _ h => h), (fun _ _ _ _ _ h => h)⟩
  case o4 =>
    intro vals wq hRq hNq hpq
    simp only [factsP, List.getD_cons_zero, List.getD_cons_succ] at hpq
    have f3 := hpq.1
    replace hpq := hpq.2
    clear hpq
    replace f3 : vals 3 = _ := f3
    simp only [List.getD_cons_zero, List.getD_cons_succ, canonP, f3]
    clear f3
    have hcc : wq.cell? ⟨B, 2, none⟩ = some vw := hNq (4, fun wx => wx.cell? ⟨B, 2, none⟩ = some vw) (List.Mem.head _) rfl
    simp only [Oper.gives]
    go_simp
    first | exact ⟨is_mk _ _, Touch.refl _ _⟩ | exact ⟨is_mk _ _, Touch.refl _ _, (fun _ _ _ _ h => h), (fun _ _ _ _ _ h => h)⟩
  case o5 =>
    intro vals wq hRq hNq hpq
    simp only [List.getD_cons_zero, List.getD_cons_succ, canonP]
    simp only [Oper.gives]
    go_simp
    first | exact ⟨is_mk _ _, (Touch.refl S) _⟩ | exact ⟨is_mk _ _, (Touch.refl S) _, (fun _ _ _ _ h => h), (fun _ _ _ _ _ h => h)⟩
  case o6 =>
    intro vals wq hRq hNq hpq
    simp only [List.getD_cons_zero, List.getD_cons_succ, canonP]
    have hbx : wq.heap[Bx]? = some (.cells (bc x).toArray 44) := (hRq.block Bx HXL.out HXS.out).trans HX.out
    rw [if_pos (by rfl)]
    exact gives_load_row 44 _ rfl Bx rfl 44 (bc x).toArray (0, 0) _ hbx Try.underlying44 rfl HSz.out ⟨is_mk _ _, Touch.refl _ _, (fun _ _ _ _ h => h), (fun _ _ _ _ _ h => h)⟩
  case o7 =>
    intro vals wq hRq hNq hpq
    simp only [factsP, List.getD_cons_zero, List.getD_cons_succ] at hpq
    have f5 := hpq.1
    replace hpq := hpq.2
    have f6 := hpq.1
    replace hpq := hpq.2
    clear hpq
    replace f5 : vals 5 = _ := f5
    replace f6 : vals 6 = _ := f6
    simp only [List.getD_cons_zero, List.getD_cons_succ, canonP, f5, f6]
    clear f5 f6
    rw [if_pos (by rfl)]
    exact gives_build 93 _ rfl (wc (b, x)).toArray (by simp only [List.map_toArray, List.map_cons, List.map_nil]; exact HBW.out) ⟨is_mk _ _, Touch.refl _ _, (fun _ _ _ _ h => h), (fun _ _ _ _ _ h => h)⟩
  case o8 =>
    intro vals wq hRq hNq hpq
    simp only [factsP, List.getD_cons_zero, List.getD_cons_succ] at hpq
    have f7 := hpq.1
    replace hpq := hpq.2
    clear hpq
    replace f7 : vals 7 = _ := f7
    simp only [List.getD_cons_zero, List.getD_cons_succ, canonP, f7]
    clear f7
    have hsz : W1.heap.size ≤ wq.heap.size := hRq.size
    rw [if_pos (by rfl)]
    refine gives_buildSlice 66 1 _ rfl (v := .slice (some ⟨wq.heap.size, 0, none⟩) 1 1) (w' := wq.alloc (.cells (wc (b, x)).toArray 93)) (by simp only [List.map_toArray, List.map_cons, List.map_nil]; exact buildSlice_one (wc (b, x)) HWL.out wq) ⟨⟨rfl, heap_alloc_last _ _, (fun hm => by have := HLT.out _ hm; simp only [Value.ownBlock, Option.getD_some] at this; omega), hsz⟩, Touch.alloc _ _ _, ?_, ?_⟩
    · exact keepN HLB.out HLW.out (Nat.le_trans HSW.out hsz) (Touch.alloc [] wq _) (by simp) (by simp)
    · intro k hk hne hnp; exact absurd hk (by intro hk; simp at hk; rcases hk with rfl | rfl | rfl <;> first | exact hne rfl | exact hnp (by simp))
  case o9 =>
    intro vals wq hRq hNq hpq
    simp only [factsP, List.getD_cons_zero, List.getD_cons_succ] at hpq
    have f4 := hpq.1
    replace hpq := hpq.2
    have f8 := hpq.1
    replace hpq := hpq.2
    clear hpq
    replace f4 : vals 4 = _ := f4
    simp only [List.getD_cons_zero, List.getD_cons_succ, canonP, f4]
    clear f4
    have hrow : Row wq 93 257 vw (d.ws.map wc) := hNq (9, fun wx => Row wx 93 257 vw (d.ws.map wc)) (List.Mem.tail _ (List.Mem.head _)) rfl
    have hsz : W1.heap.size ≤ wq.heap.size := hRq.size
    rw [if_pos (by rfl)]
    refine gives_append _ _ 66 rfl 93 i0 (.agg zeroW.toArray) 257 264 Try.underlying66 HI.out hz0 hz1 hz2 (by show zeroW.toArray.size = 257; rw [List.size_toArray, zeroW_len]) (by omega) vw (d.ws.map wc) rfl hrow _ 1 (wc (b, x)) f8.1 HWL.out (cells_add f8.2.1) (wc_one _) (by rw [List.length_map]; exact HWS.out) (by omega) ?_
    intro v' w' hrow' hg hown hne
    refine ⟨⟨hrow', ?_⟩, Touch.grown hg HIW.out, ?_, ?_⟩
    · rcases hown with h | h; exact .inl h; exact .inr ⟨_, h, hsz⟩
    · intro p hp; simp only [List.mem_cons, List.not_mem_nil, or_false] at hp; rcases hp with rfl | rfl | rfl
      · intro _ hn; exact absurd (by simp) hn
      · intro hn; exact absurd rfl hn
      · intro _ _ h; exact (hg.block B (Nat.lt_of_lt_of_le HLB.out (Nat.le_trans HSW.out hsz)) (fun e => (HBW2.out B e.symm) rfl)).trans h
    · intro k hk hne hnp u hu; simp only [List.mem_cons, List.not_mem_nil, or_false] at hk; rcases hk with rfl | rfl | rfl
      · exact OneAt.grown hu hg HIW.out
      · exact absurd rfl hne
      · exact absurd (by simp) hnp
  case o10 =>
    intro vals wq hRq hNq hpq
    simp only [factsP, List.getD_cons_zero, List.getD_cons_succ] at hpq
    have f0 := hpq.1
    replace hpq := hpq.2
    have f1 := hpq.1
    replace hpq := hpq.2
    have f2 := hpq.1
    replace hpq := hpq.2
    have f3 := hpq.1
    replace hpq := hpq.2
    have f4 := hpq.1
    replace hpq := hpq.2
    have f5 := hpq.1
    replace hpq := hpq.2
    have f6 := hpq.1
    replace hpq := hpq.2
    have f7 := hpq.1
    replace hpq := hpq.2
    have f8 := hpq.1
    replace hpq := hpq.2
    have f9 := hpq.1
    replace hpq := hpq.2
    clear hpq
    replace f0 : vals 0 = _ := f0
    replace f1 : vals 1 = _ := f1
    replace f2 : vals 2 = _ := f2
    replace f3 : vals 3 = _ := f3
    replace f4 : vals 4 = _ := f4
    replace f5 : vals 5 = _ := f5
    replace f6 : vals 6 = _ := f6
    replace f7 : vals 7 = _ := f7
    simp only [List.getD_cons_zero, List.getD_cons_succ, canonP, f0, f1, f2, f3, f4, f5, f6, f7]
    clear f0 f1 f2 f3 f4 f5 f6 f7
    simp only [Oper.gives]
    go_simp
    first | exact ⟨is_mk _ _, (Touch.refl S) _⟩ | exact ⟨is_mk _ _, (Touch.refl S) _, (fun _ _ _ _ h => h), (fun _ _ _ _ _ h => h)⟩
  case o11 =>
    intro vals wq hRq hNq hpq
    simp only [factsP, List.getD_cons_zero, List.getD_cons_succ] at hpq
    have f0 := hpq.1
    replace hpq := hpq.2
    have f1 := hpq.1
    replace hpq := hpq.2
    have f2 := hpq.1
    replace hpq := hpq.2
    have f3 := hpq.1
    replace hpq := hpq.2
    have f4 := hpq.1
    replace hpq := hpq.2
    have f5 := hpq.1
    replace hpq := hpq.2
    have f6 := hpq.1
    replace hpq := hpq.2
    have f7 := hpq.1
    replace hpq := hpq.2
    have f8 := hpq.1
    replace hpq := hpq.2
    have f9 := hpq.1
    replace hpq := hpq.2
    have f10 := hpq.1
    replace hpq := hpq.2
    clear hpq
    replace f0 : vals 0 = _ := f0
    replace f1 : vals 1 = _ := f1
    replace f2 : vals 2 = _ := f2
    replace f3 : vals 3 = _ := f3
    replace f4 : vals 4 = _ := f4
    replace f5 : vals 5 = _ := f5
    replace f6 : vals 6 = _ := f6
    replace f7 : vals 7 = _ := f7
    replace f10 : vals 10 = _ := f10
    simp only [List.getD_cons_zero, List.getD_cons_succ, canonP, f0, f1, f2, f3, f4, f5, f6, f7, f10]
    clear f0 f1 f2 f3 f4 f5 f6 f7 f10
    simp only [Oper.gives]
    go_simp
    first | exact ⟨is_mk _ _, (Touch.refl S) _⟩ | exact ⟨is_mk _ _, (Touch.refl S) _, (fun _ _ _ _ h => h), (fun _ _ _ _ _ h => h)⟩
  case o12 =>
    intro vals wq hRq hNq hpq
    simp only [factsP, List.getD_cons_zero, List.getD_cons_succ] at hpq
    have f0 := hpq.1
    replace hpq := hpq.2
    have f1 := hpq.1
    replace hpq := hpq.2
    have f2 := hpq.1
    replace hpq := hpq.2
    have f3 := hpq.1
    replace hpq := hpq.2
    have f4 := hpq.1
    replace hpq := hpq.2
    have f5 := hpq.1
    replace hpq := hpq.2
    have f6 := hpq.1
    replace hpq := hpq.2
    have f7 := hpq.1
    replace hpq := hpq.2
    have f8 := hpq.1
    replace hpq := hpq.2
    have f9 := hpq.1
    replace hpq := hpq.2
    have f11 := hpq.1
    replace hpq := hpq.2
    clear hpq
    replace f0 : vals 0 = _ := f0
    replace f1 : vals 1 = _ := f1
    replace f2 : vals 2 = _ := f2
    replace f3 : vals 3 = _ := f3
    replace f4 : vals 4 = _ := f4
    replace f5 : vals 5 = _ := f5
    replace f6 : vals 6 = _ := f6
    replace f7 : vals 7 = _ := f7
    replace f11 : vals 11 = _ := f11
    simp only [List.getD_cons_zero, List.getD_cons_succ, canonP, f0, f1, f2, f3, f4, f5, f6, f7, f11]
    clear f0 f1 f2 f3 f4 f5 f6 f7 f11
    have hob : wq.heap[B]? = some (dObj vs vl vw d) := hNq (12, fun wx => wx.heap[B]? = some (dObj vs vl vw d)) (List.Mem.tail _ (List.Mem.tail _ (List.Mem.head _))) rfl
    have hcc : wq.cell? ⟨B, 2, none⟩ = some vw := cell_at hob 2
    have hff : wq.frozen? ⟨B, 2, none⟩ = false := frozen_at hob 2
    simp only [Act.put, List.setIfInBounds_toArray, List.set_cons_succ, List.set_cons_zero]
    rw [if_pos (by rfl)]
    refine gives_store66 wq B vw (vals 9) rfl rfl rfl hcc hff (rowSlice f9.1) ⟨?_, Touch.setCell wq HIB.out _, ?_, ?_⟩
    · exact ⟨vals 9, heap_set hob 2 _, f9.1.kept (Touch.setCell (S := [B]) wq (by simp) _) (fun g hg => by simpa using AppAt.ne f9 HBW2.out HLB.out hg), f9.2⟩
    · intro p hp; simp only [List.mem_cons, List.not_mem_nil, or_false] at hp; rcases hp with rfl | rfl | rfl
      · intro _ hn; exact absurd (by simp) hn
      · intro _ hn; exact absurd (by simp) hn
      · intro hn; exact absurd rfl hn
    · intro k hk hne hnp u hu; simp only [List.mem_cons, List.not_mem_nil, or_false] at hk; rcases hk with rfl | rfl | rfl
      · exact OneAt.touch hu (Touch.setCell (S := [B]) wq (by simp) _) (by intro k hk; rw [List.mem_singleton.1 hk]; exact HIB.out)
      · exact ⟨hu.1.kept (Touch.setCell (S := [B]) wq (by simp) _) (fun g hg => by simpa using AppAt.ne hu HBW2.out HLB.out hg), hu.2⟩
      · exact absurd rfl hne
  intro vals wz hRwz hfwz
  simp only [AllFacts] at hfwz
  have g0 := hfwz.1
  replace hfwz := hfwz.2
  have g1 := hfwz.1
  replace hfwz := hfwz.2
  have g2 := hfwz.1
  replace hfwz := hfwz.2
  have g3 := hfwz.1
  replace hfwz := hfwz.2
  have g4 := hfwz.1
  replace hfwz := hfwz.2
  have g5 := hfwz.1
  replace hfwz := hfwz.2
  have g6 := hfwz.1
  replace hfwz := hfwz.2
  have g7 := hfwz.1
  replace hfwz := hfwz.2
  have g8 := hfwz.1
  replace hfwz := hfwz.2
  have g9 := hfwz.1
  replace hfwz := hfwz.2
  have g10 := hfwz.1
  replace hfwz := hfwz.2
  have g11 := hfwz.1
  replace hfwz := hfwz.2
  have g12 := hfwz.1
  replace hfwz := hfwz.2
  clear hfwz
  replace g0 : vals 0 = _ := g0
  replace g1 : vals 1 = _ := g1
  replace g2 : vals 2 = _ := g2
  replace g3 : vals 3 = _ := g3
  replace g4 : vals 4 = _ := g4
  replace g5 : vals 5 = _ := g5
  replace g6 : vals 6 = _ := g6
  replace g7 : vals 7 = _ := g7
  replace g10 : vals 10 = _ := g10
  replace g11 : vals 11 = _ := g11
  simp only [canonP, Act.put, List.setIfInBounds_toArray, List.set_cons_succ, List.set_cons_zero, g0, g1, g2, g3, g4, g5, g6, g7, g10, g11]
  clear g0 g1 g2 g3 g4 g5 g6 g7 g8 g9 g10 g11
  exact HK.out _ _ _ _ _ _ _ _ _ _ _ _ _ ((Touch.drew S W1).trans hRwz (fun i hi => .inl hi)) g12
#print axioms write_reg4
end Go.Proofs.Ytieknecbheeekaa
