/- The parts of an image: the iterator of geo.parts, for whatever loop body. -/
import Derived.Test.YtgakdaohhbdjoaaG7
import Derived.RangeFuncNested
import Derived.RangeFuncBound
import Derived.RangeFuncCalls
import Derived.RangeFuncLeaves
import Derived.Shelf.Abstract
import Derived.WalkKit
import Derived.OwnWalkIn
import Derived.TacticsInMore
import Derived.LoopNIn
import Derived.LoopIn
import Derived.Sort.CutIn
import Derived.Deep.WholeRow
set_option linter.unusedVariables false
set_option linter.unusedSimpArgs false
namespace Go.Proofs.Ytgakdaohhbdjoaa
open Go.RowKit Go.Shelf
attribute [local go_sem] Oper.semAt_some

structure Pt where
  kind : Nat
  group : Nat
  fr : Nat
  size : Nat
  place : Nat
def Pt.v (p : Pt) : Value := .agg #[.int .u8 (p.kind : Int), .int .i64 (p.group : Int), .int .i64 (p.fr : Int), .int .i64 (p.size : Int), .int .i64 (p.place : Int)]
def hd3 (jr : Nat) : List Pt := [⟨1, 0, 0, 1, 0⟩, ⟨2, 0, 1, 1, 0⟩, ⟨3, 0, 2, jr, 0⟩]
def own4 (sz ni jr g : Nat) : List Pt := [⟨4, g, 2 + jr + g * sz, 1, 0⟩, ⟨5, g, 2 + jr + g * sz + 1, 1, 1⟩, ⟨6, g, 2 + jr + g * sz + 2, ni / 4, 2⟩, ⟨7, g, 2 + jr + g * sz + 2 + ni / 4, sz - 2 - ni / 4, 2 + ni / 4⟩]
def partsOf (gr sz ni jr : Nat) : List Pt := hd3 jr ++ (List.range gr).flatMap (own4 sz ni jr)

def GAt (W : World) (Bn : Nat) (gr sz ni jr : Nat) : Prop :=
  W.cell? ⟨Bn, 0, none⟩ = some (.int .i64 (gr : Int)) ∧ W.cell? ⟨Bn, 1, none⟩ = some (.int .i64 (sz : Int)) ∧ W.cell? ⟨Bn, 2, none⟩ = some (.int .i64 (ni : Int)) ∧ W.cell? ⟨Bn, 3, none⟩ = some (.int .i64 (jr : Int))
theorem GAt.below {n₀ Bn gr sz ni jr : Nat} {A B : World} (h : GAt A Bn gr sz ni jr) (hb : Below n₀ A B) (hlt : Bn < n₀) : GAt B Bn gr sz ni jr :=
  ⟨(hb.cell (p := ⟨Bn, 0, none⟩) hlt).trans h.1, (hb.cell (p := ⟨Bn, 1, none⟩) hlt).trans h.2.1, (hb.cell (p := ⟨Bn, 2, none⟩) hlt).trans h.2.2.1, (hb.cell (p := ⟨Bn, 3, none⟩) hlt).trans h.2.2.2⟩


theorem ix3_0 (x0 x1 x2 x3 x4 x5 x6 x7 x8 x9 x10 x11 x12 x13 x14 : Value) (w : World) : (Instr.index 48 (.agg #[x0, x1, x2, x3, x4, x5, x6, x7, x8, x9, x10, x11, x12, x13, x14]) (.int .i64 0)).run Try.prog w = .ok (.agg #[x0, x1, x2, x3, x4]) w := by kernel_rfl
theorem ix3_1 (x0 x1 x2 x3 x4 x5 x6 x7 x8 x9 x10 x11 x12 x13 x14 : Value) (w : World) : (Instr.index 48 (.agg #[x0, x1, x2, x3, x4, x5, x6, x7, x8, x9, x10, x11, x12, x13, x14]) (.int .i64 1)).run Try.prog w = .ok (.agg #[x5, x6, x7, x8, x9]) w := by kernel_rfl
theorem ix3_2 (x0 x1 x2 x3 x4 x5 x6 x7 x8 x9 x10 x11 x12 x13 x14 : Value) (w : World) : (Instr.index 48 (.agg #[x0, x1, x2, x3, x4, x5, x6, x7, x8, x9, x10, x11, x12, x13, x14]) (.int .i64 2)).run Try.prog w = .ok (.agg #[x10, x11, x12, x13, x14]) w := by kernel_rfl
theorem ix4_0 (x0 x1 x2 x3 x4 x5 x6 x7 x8 x9 x10 x11 x12 x13 x14 x15 x16 x17 x18 x19 : Value) (w : World) : (Instr.index 49 (.agg #[x0, x1, x2, x3, x4, x5, x6, x7, x8, x9, x10, x11, x12, x13, x14, x15, x16, x17, x18, x19]) (.int .i64 0)).run Try.prog w = .ok (.agg #[x0, x1, x2, x3, x4]) w := by kernel_rfl
theorem ix4_1 (x0 x1 x2 x3 x4 x5 x6 x7 x8 x9 x10 x11 x12 x13 x14 x15 x16 x17 x18 x19 : Value) (w : World) : (Instr.index 49 (.agg #[x0, x1, x2, x3, x4, x5, x6, x7, x8, x9, x10, x11, x12, x13, x14, x15, x16, x17, x18, x19]) (.int .i64 1)).run Try.prog w = .ok (.agg #[x5, x6, x7, x8, x9]) w := by kernel_rfl
theorem ix4_2 (x0 x1 x2 x3 x4 x5 x6 x7 x8 x9 x10 x11 x12 x13 x14 x15 x16 x17 x18 x19 : Value) (w : World) : (Instr.index 49 (.agg #[x0, x1, x2, x3, x4, x5, x6, x7, x8, x9, x10, x11, x12, x13, x14, x15, x16, x17, x18, x19]) (.int .i64 2)).run Try.prog w = .ok (.agg #[x10, x11, x12, x13, x14]) w := by kernel_rfl
theorem ix4_3 (x0 x1 x2 x3 x4 x5 x6 x7 x8 x9 x10 x11 x12 x13 x14 x15 x16 x17 x18 x19 : Value) (w : World) : (Instr.index 49 (.agg #[x0, x1, x2, x3, x4, x5, x6, x7, x8, x9, x10, x11, x12, x13, x14, x15, x16, x17, x18, x19]) (.int .i64 3)).run Try.prog w = .ok (.agg #[x15, x16, x17, x18, x19]) w := by kernel_rfl
attribute [local go_sem] ix3_0 ix3_1 ix3_2 ix4_0 ix4_1 ix4_2 ix4_3
theorem parts_grp (gr sz ni jr g : Nat) (h : g < gr) (pre : List Pt) (hp : pre <+: own4 sz ni jr g) : hd3 jr ++ (List.range g).flatMap (own4 sz ni jr) ++ pre <+: partsOf gr sz ni jr := by
  obtain ⟨d, rfl⟩ : ∃ d, gr = g + 1 + d := ⟨gr - g - 1, by omega⟩
  obtain ⟨t, ht⟩ := hp
  refine ⟨t ++ ((List.range d).map (fun i => g + 1 + i)).flatMap (own4 sz ni jr), ?_⟩
  unfold partsOf
  rw [List.range_add, List.range_succ, List.flatMap_append, List.flatMap_append, List.flatMap_cons, List.flatMap_nil, List.append_nil, ← ht]
  simp only [List.append_assoc]
theorem upto_grp (sz ni jr g : Nat) : (List.range (g + 1)).flatMap (own4 sz ni jr) = (List.range g).flatMap (own4 sz ni jr) ++ own4 sz ni jr g := by
  rw [List.range_succ, List.flatMap_append, List.flatMap_cons, List.flatMap_nil, List.append_nil]
theorem upto_len (sz ni jr g : Nat) : ((List.range g).flatMap (own4 sz ni jr)).length = 4 * g := by
  induction g with
  | zero => rfl
  | succ g ih => rw [upto_grp, List.length_append, ih]; simp [own4]; omega



def loopsOf : Code → List Code
  | .loop c => [c]
  | .seq a b => loopsOf a ++ loopsOf b
  | .block _ c => loopsOf c
  | .scope c => loopsOf c
  | .cond _ a b => loopsOf a ++ loopsOf b
  | _ => []
noncomputable def body2 : Code := (((Try.f31.body.map loopsOf).getD []).getD 1 .skip)
noncomputable def body3 : Code := ((loopsOf body2).getD 0 .skip)

/-- what a call of yield does, for whatever loop body -/
def Yields (F : Fence) (n l n₀ N : Nat) (J Jx : List Pt → World → Prop) : Prop :=
  ∀ pre (x : Pt) W vs, x.v = .agg vs → J pre W → pre.length < N → ∃ fn tmps assign body, (Instr.yield l #[.agg vs]).run Try.prog W = .ok (.round l fn tmps assign body) W ∧ RoundIn F (n - 1) Try.prog l fn tmps assign body W fun e W' =>
      (e = .returned (.bool true) ∧ J (pre ++ [x]) W' ∧ Below n₀ W W') ∨ (e = .returned (.bool false) ∧ Jx (pre ++ [x]) W')
/-- an element of the array of a group's own parts -/
theorem ix4_any (A A1 A2 B d p q g : Nat) (k : Nat) (hk : k < 4) : ∃ x : Pt, ∃ kd gp fr sz pl : Nat, ([⟨4, g, A, 1, 0⟩, ⟨5, g, A1, 1, 1⟩, ⟨6, g, A2, q, 2⟩, ⟨7, g, B, d, p⟩] : List Pt)[k]? = some x ∧ x.v = .agg #[.int .u8 (kd : Int), .int .i64 (gp : Int), .int .i64 (fr : Int), .int .i64 (sz : Int), .int .i64 (pl : Int)] ∧
    ∀ w, (Instr.index 49 (.agg #[.int .u8 4, .int .i64 (g : Int), .int .i64 (A : Int), .int .i64 1, .int .i64 0, .int .u8 5, .int .i64 (g : Int), .int .i64 (A1 : Int), .int .i64 1, .int .i64 1, .int .u8 6, .int .i64 (g : Int), .int .i64 (A2 : Int), .int .i64 (q : Int), .int .i64 2, .int .u8 7, .int .i64 (g : Int), .int .i64 (B : Int), .int .i64 (d : Int), .int .i64 (p : Int)]) (.int .i64 (k : Int))).run Try.prog w = .ok (.agg #[.int .u8 (kd : Int), .int .i64 (gp : Int), .int .i64 (fr : Int), .int .i64 (sz : Int), .int .i64 (pl : Int)]) w := by
  obtain rfl | rfl | rfl | rfl : k = 0 ∨ k = 1 ∨ k = 2 ∨ k = 3 := by omega
  · exact ⟨_, 4, g, A, 1, 0, rfl, rfl, fun w => ix4_0 _ _ _ _ _ _ _ _ _ _ _ _ _ _ _ _ _ _ _ _ w⟩
  · exact ⟨_, 5, g, A1, 1, 1, rfl, rfl, fun w => ix4_1 _ _ _ _ _ _ _ _ _ _ _ _ _ _ _ _ _ _ _ _ w⟩
  · exact ⟨_, 6, g, A2, q, 2, rfl, rfl, fun w => ix4_2 _ _ _ _ _ _ _ _ _ _ _ _ _ _ _ _ _ _ _ _ w⟩
  · exact ⟨_, 7, g, B, d, p, rfl, rfl, fun w => ix4_3 _ _ _ _ _ _ _ _ _ _ _ _ _ _ _ _ _ _ _ _ w⟩
theorem take_snoc_pt (l : List Pt) (k : Nat) (x : Pt) (h : l[k]? = some x) : l.take (k + 1) = l.take k ++ [x] := by
  rw [List.take_add_one, h]; rfl


def codesOf : Code → List Code
  | .loop c => codesOf c
  | .seq a b => codesOf a ++ codesOf b
  | .block _ c => codesOf c
  | .scope c => codesOf c
  | .cond _ a b => codesOf a ++ codesOf b
  | .region i o b => [.region i o b]
  | _ => []
noncomputable def reg11 : Code := ((codesOf body2).getD 3 .skip)
noncomputable def reg12 : Code := ((codesOf body2).getD 4 .skip)
theorem wpList_build49 {ops : Array Oper} {rest : List Oper} {o : Oper} {a : Act} {w : World} {Q : Exit → Act → World → Prop} (hg : o.guard = none) (parts : Array (Nat × Operand)) (ho : o.op = .build 49 parts)
    (p : Array (Nat × Value)) (hp : (parts.map fun (i, x) => (i, a.eval x)) = p) (X : Array Value) (hX : Try.prog.built 49 p.toList = some X) (h : ∀ Y, Hid (Y = X) → wpList Try.prog ops Q rest (a.put o.dst (.agg Y)) w) : wpList Try.prog ops Q (o :: rest) a w := by
  refine wpList_build hg _ parts ho ?_ ?_
  · rw [hp, hX]; rfl
  · rw [hp, hX]; exact h X (Lib.hid rfl)
theorem wpList_store49 {ops : Array Oper} {rest : List Oper} {o : Oper} {a : Act} {Q : Exit → Act → World → Prop} (hgd : o.guard = none) (x y : Operand) (ho : o.op = .store 49 x y) (w0 : World) (z X : Array Value)
    (hx : a.eval x = .pointer (some ⟨w0.heap.size, 0, none⟩)) (hy : a.eval y = .agg X) (hz : z.size = 20) (hs : X.size = 20) (h1 : X.all (·.oneCell') = true)
    (h : wpList Try.prog ops Q rest (a.put o.dst undef) (w0.alloc (.cells X 49))) : wpList Try.prog ops Q (o :: rest) a (w0.alloc (.cells z 49)) := by
  refine wpList_store_row hgd _ x y ho w0.heap.size X hx hy 49 z (heap_alloc_last w0 _) ?_ (hz.trans hs.symm) h1 ?_
  · rw [hs]; kernel_rfl
  · rw [World.setRow_alloc_new]; exact h
theorem wpList_load49 {ops : Array Oper} {rest : List Oper} {o : Oper} {a : Act} {Q : Exit → Act → World → Prop} (hgd : o.guard = none) (x : Operand) (ho : o.op = .load 49 x) (w0 : World) (X : Array Value)
    (hx : a.eval x = .pointer (some ⟨w0.heap.size, 0, none⟩)) (hs : X.size = 20)
    (h : wpList Try.prog ops Q rest (a.put o.dst (.agg X)) (w0.alloc (.cells X 49))) : wpList Try.prog ops Q (o :: rest) a (w0.alloc (.cells X 49)) :=
  wpList_load_row hgd _ x ho w0.heap.size hx 49 X (0, 0) _ (heap_alloc_last w0 _) Try.underlying49 rfl (by rw [hs]; kernel_rfl) h


set_option maxRecDepth 100000 in
set_option maxHeartbeats 1000000 in
theorem own_loop (F : Fence) (n : Nat) (hro : F.round = none) (hn : 1 ≤ n) (l n₀ N : Nat) (J Jx : List Pt → World → Prop) (HY : Hid (Yields F n l n₀ N J Jx)) (HJ : Hid (∀ s W o, J s W → J s (W.alloc o)))
    (base : List Pt) (A A1 A2 B d p q g : Nat) (W : World) (HN : Hid (n₀ ≤ W.heap.size)) (HL : Hid (base.length + 4 ≤ N)) (Q : Exit → Act → World → Prop) (X : Array Value) (HE : Hid (X = #[.int .u8 4, .int .i64 (g : Int), .int .i64 (A : Int), .int .i64 1, .int .i64 0, .int .u8 5, .int .i64 (g : Int), .int .i64 (A1 : Int), .int .i64 1, .int .i64 1, .int .u8 6, .int .i64 (g : Int), .int .i64 (A2 : Int), .int .i64 (q : Int), .int .i64 2, .int .u8 7, .int .i64 (g : Int), .int .i64 (B : Int), .int .i64 (d : Int), .int .i64 (p : Int)])) (c1 c2 c3 c4 c5 c6 c7 c8 c9 c10 c11 c12 c13 c14 c15 c16 c17 c18 c19 c20 c21 c22 c23 c24 c25 c26 c27 c28 c29 c30 c31 c32 c33 c34 c35 c36 c37 c38 c39 c40 c41 c42 c43 c44 c45 c46 c47 c48 c49 c50 c51 c52 c53 c54 c55 c56 c57 c58 c59 c60 c61 c62 c63 c64 c65 c66 c67 c68 c71 c72 c73 c74 c75 c76 c77 c78 : Value)
    (HX : Hid (∀ u11 u70 u71 u72 u73 u74 u75 u76 u77 wz, J (base ++ ([⟨4, g, A, 1, 0⟩, ⟨5, g, A1, 1, 1⟩, ⟨6, g, A2, q, 2⟩, ⟨7, g, B, d, p⟩] : List Pt)) wz → Below n₀ W wz → Q (.exit 4) ⟨(.func (.yield l) #[] #[] :: c1 :: c2 :: c3 :: c4 :: c5 :: c6 :: c7 :: c8 :: c9 :: c10 :: u11 :: c12 :: c13 :: c14 :: c15 :: c16 :: c17 :: c18 :: c19 :: c20 :: c21 :: c22 :: c23 :: c24 :: c25 :: c26 :: c27 :: c28 :: c29 :: c30 :: c31 :: c32 :: c33 :: c34 :: c35 :: c36 :: c37 :: c38 :: c39 :: c40 :: c41 :: c42 :: c43 :: c44 :: c45 :: c46 :: c47 :: c48 :: c49 :: c50 :: c51 :: c52 :: c53 :: c54 :: c55 :: c56 :: c57 :: c58 :: c59 :: c60 :: c61 :: c62 :: c63 :: c64 :: c65 :: c66 :: c67 :: c68 :: (.agg X) :: u70 :: u71 :: u72 :: u73 :: u74 :: u75 :: u76 :: u77 :: c78 :: []).toArray, []⟩ wz))
    (HR : Hid (∀ (tz : Array Value) wz k, 0 < k → k ≤ 4 → Jx (base ++ ([⟨4, g, A, 1, 0⟩, ⟨5, g, A1, 1, 1⟩, ⟨6, g, A2, q, 2⟩, ⟨7, g, B, d, p⟩] : List Pt).take k) wz → Q .ret ⟨tz, []⟩ wz)) (w0 : World) (HB : Hid (Below n₀ W w0)) (HS : Hid (J base w0)) :
    (Code.loop body3).wpIn F n Try.prog Q ⟨(.func (.yield l) #[] #[] :: c1 :: c2 :: c3 :: c4 :: c5 :: c6 :: c7 :: c8 :: c9 :: c10 :: c11 :: c12 :: c13 :: c14 :: c15 :: c16 :: c17 :: c18 :: c19 :: c20 :: c21 :: c22 :: c23 :: c24 :: c25 :: c26 :: c27 :: c28 :: c29 :: c30 :: c31 :: c32 :: c33 :: c34 :: c35 :: c36 :: c37 :: c38 :: c39 :: c40 :: c41 :: c42 :: c43 :: c44 :: c45 :: c46 :: c47 :: c48 :: c49 :: c50 :: c51 :: c52 :: c53 :: c54 :: c55 :: c56 :: c57 :: c58 :: c59 :: c60 :: c61 :: c62 :: c63 :: c64 :: c65 :: c66 :: c67 :: c68 :: (.agg X) :: .int .i64 0 :: c71 :: c72 :: c73 :: c74 :: c75 :: c76 :: c77 :: c78 :: []).toArray, []⟩ w0 := by
  conv => arg 4; arg 1; whnf
  gi_loopw [70] (fun i wr => ∃ k : Nat, k ≤ 4 ∧ i = .int .i64 (k : Int) ∧ Below n₀ W wr ∧ J (base ++ ([⟨4, g, A, 1, 0⟩, ⟨5, g, A1, 1, 1⟩, ⟨6, g, A2, q, 2⟩, ⟨7, g, B, d, p⟩] : List Pt).take k) wr) (fun i _ => 4 - (intOf i).toNat)
  case atStart => exact ⟨0, by omega, rfl, HB.out, by simpa using HS.out⟩
  case round =>
    obtain ⟨k, hk, rfl, hB, hJs⟩ := hrel
    clear HB HS
    have HB := Lib.hid hB
    have HS := Lib.hid hJs
    clear hB hJs
    by_cases hlt : k < 4
    · obtain ⟨x, kd, gp, fr, sz, pl, hx, hv, hix⟩ := ix4_any A A1 A2 B d p q g k hlt
      rw [← HE.out] at hix
      have HV := Lib.hid hv
      have HT := Lib.hid (take_snoc_pt _ _ _ hx)
      clear hv hx
      obtain ⟨fn, tmps, assign, body, hy, hR⟩ := HY.out (base ++ ([⟨4, g, A, 1, 0⟩, ⟨5, g, A1, 1, 1⟩, ⟨6, g, A2, q, 2⟩, ⟨7, g, B, d, p⟩] : List Pt).take k) x (wr.alloc (.cells #[.int .u8 (kd : Int), .int .i64 (gp : Int), .int .i64 (fr : Int), .int .i64 (sz : Int), .int .i64 (pl : Int)] 46)) _ HV.out (HJ.out _ _ _ HS.out) (by have := HL.out; simp only [List.length_append, List.length_take]; omega)
      rw [List.append_assoc, ← HT.out] at hR
      gi_wp2
      refine hR.mono ?_
      clear hR hy hix
      rintro e W3 (⟨rfl, hJ3, hk3⟩ | ⟨rfl, hJx3⟩)
      · gi_wp2
        go_roundw
        case rel => exact ⟨k + 1, by omega, by go_num, (HB.out.alloc (Nat.le_trans HN.out HB.out.size) _).trans hk3, hJ3⟩
        case measure => simp [intOf]; omega
      · gi_wp2
        exact HR.out _ _ (k + 1) (by omega) (by omega) hJx3
    · obtain rfl : k = 4 := by omega
      gi_wp2
      exact HX.out _ _ _ _ _ _ _ _ _ _ HS.out HB.out
#print axioms own_loop


theorem grp_facts (gr sz ni jr q g : Nat) (hM : May gr sz ni jr) (hq : q = ni / 4) (hlt : g < gr) : ∃ s A A1 A2 B d p : Nat,
    (g : Int) * (sz : Int) = (s : Int) ∧ IntKind.i64.wrap (2 + (jr : Int)) = 2 + (jr : Int) ∧ IntKind.i64.wrap (s : Int) = (s : Int) ∧ IntKind.i64.wrap (2 + (jr : Int) + (s : Int)) = (A : Int) ∧
    IntKind.i64.wrap ((A : Int) + 1) = (A1 : Int) ∧ IntKind.i64.wrap ((A : Int) + 2) = (A2 : Int) ∧ IntKind.i64.wrap ((A2 : Int) + (q : Int)) = (B : Int) ∧ IntKind.i64.wrap ((sz : Int) - 2) = (sz : Int) - 2 ∧
    IntKind.i64.wrap ((sz : Int) - 2 - (q : Int)) = (d : Int) ∧ IntKind.i64.wrap (2 + (q : Int)) = (p : Int) ∧ IntKind.i64.wrap ((g : Int) + 1) = ((g + 1 : Nat) : Int) ∧
    own4 sz ni jr g = [⟨4, g, A, 1, 0⟩, ⟨5, g, A1, 1, 1⟩, ⟨6, g, A2, q, 2⟩, ⟨7, g, B, d, p⟩] := by
  obtain ⟨g1, g2, g3, g4, g5, g6, g7, g8, g9, g10, g11⟩ := hM
  have hsz : (sz : Int) ≤ 512 := g4
  have hgs : g * sz ≤ 4 * 512 := Nat.mul_le_mul (by omega) (by omega)
  refine ⟨g * sz, 2 + jr + g * sz, 2 + jr + g * sz + 1, 2 + jr + g * sz + 2, 2 + jr + g * sz + 2 + q, sz - 2 - q, 2 + q, by simp, IntWalk.i64_in _ (by omega), ?_, ?_, ?_, ?_, ?_, IntWalk.i64_in _ (by omega), ?_, ?_, ?_, ?_⟩
  · exact IntWalk.i64_in _ (by omega)
  · generalize g * sz = s at *; rw [IntWalk.i64_in _ (by omega)]; omega
  · generalize g * sz = s at *; rw [IntWalk.i64_in _ (by omega)]; omega
  · generalize g * sz = s at *; rw [IntWalk.i64_in _ (by omega)]; omega
  · generalize g * sz = s at *; rw [IntWalk.i64_in _ (by omega)]; omega
  · rw [IntWalk.i64_in _ (by omega)]; omega
  · rw [IntWalk.i64_in _ (by omega)]; omega
  · rw [IntWalk.i64_in _ (by omega)]; omega
  · unfold own4; rw [← hq]



set_option maxRecDepth 100000 in
set_option maxHeartbeats 2000000 in
theorem reg11_wp (Bn q g A A1 A2 B d p sz : Nat) (w0 : World) (h1 : w0.cell? ⟨Bn, 1, none⟩ = some (.int .i64 (sz : Int)))
    (f4 : IntKind.i64.wrap ((A : Int) + 1) = (A1 : Int)) (f5 : IntKind.i64.wrap ((A : Int) + 2) = (A2 : Int)) (f6 : IntKind.i64.wrap ((A2 : Int) + (q : Int)) = (B : Int)) (f7 : IntKind.i64.wrap ((sz : Int) - 2) = (sz : Int) - 2)
    (f8 : IntKind.i64.wrap ((sz : Int) - 2 - (q : Int)) = (d : Int)) (f9 : IntKind.i64.wrap (2 + (q : Int)) = (p : Int)) (c0 c2 c4 c5 c6 c9 c10 c11 c12 c13 c14 c15 c16 c17 c18 c19 c20 c21 c22 c23 c24 c25 c26 c27 c28 c29 c30 c31 c32 c33 c34 c35 c36 c37 c38 c39 c40 c41 c42 c43 c44 c45 c46 c47 c48 c49 c50 c51 c52 c53 c54 c55 c56 c57 c58 c59 c60 c61 c62 c63 c64 c65 c66 c67 c68 c69 c70 c71 c72 c73 c74 c75 c76 c77 c78 : Value) (Q : Exit → Act → World → Prop)
    (HK : Hid (∀ X : Array Value, Hid (X = #[.int .u8 4, .int .i64 (g : Int), .int .i64 (A : Int), .int .i64 1, .int .i64 0, .int .u8 5, .int .i64 (g : Int), .int .i64 (A1 : Int), .int .i64 1, .int .i64 1, .int .u8 6, .int .i64 (g : Int), .int .i64 (A2 : Int), .int .i64 (q : Int), .int .i64 2, .int .u8 7, .int .i64 (g : Int), .int .i64 (B : Int), .int .i64 (d : Int), .int .i64 (p : Int)]) → ∀ u43 u44 u45 u46 u47 u48 u49 u50 u51 u52 u53 u54 u55 u56 u57 u58 u59 u60 u61 u62 u63 u64 u65 u66 u67 u68, Q .normal ⟨(c0 :: .pointer (some ⟨Bn, 0, none⟩) :: c2 :: .int .i64 (q : Int) :: c4 :: c5 :: c6 :: .int .i64 (g : Int) :: .int .i64 (A : Int) :: .pointer (some ⟨w0.heap.size, 0, none⟩) :: c10 :: c11 :: c12 :: c13 :: c14 :: c15 :: c16 :: c17 :: c18 :: c19 :: c20 :: c21 :: c22 :: c23 :: c24 :: c25 :: c26 :: c27 :: c28 :: c29 :: c30 :: c31 :: c32 :: c33 :: c34 :: c35 :: c36 :: c37 :: c38 :: c39 :: c40 :: c41 :: c42 :: u43 :: u44 :: u45 :: u46 :: u47 :: u48 :: u49 :: u50 :: u51 :: u52 :: u53 :: u54 :: u55 :: u56 :: u57 :: u58 :: u59 :: u60 :: u61 :: u62 :: u63 :: u64 :: u65 :: u66 :: u67 :: u68 :: c69 :: c70 :: c71 :: c72 :: c73 :: c74 :: c75 :: c76 :: c77 :: c78 :: []).toArray, []⟩ (w0.alloc (.cells X 49)))) : reg11.wp Try.prog Q ⟨(c0 :: .pointer (some ⟨Bn, 0, none⟩) :: c2 :: .int .i64 (q : Int) :: c4 :: c5 :: c6 :: .int .i64 (g : Int) :: .int .i64 (A : Int) :: c9 :: c10 :: c11 :: c12 :: c13 :: c14 :: c15 :: c16 :: c17 :: c18 :: c19 :: c20 :: c21 :: c22 :: c23 :: c24 :: c25 :: c26 :: c27 :: c28 :: c29 :: c30 :: c31 :: c32 :: c33 :: c34 :: c35 :: c36 :: c37 :: c38 :: c39 :: c40 :: c41 :: c42 :: c43 :: c44 :: c45 :: c46 :: c47 :: c48 :: c49 :: c50 :: c51 :: c52 :: c53 :: c54 :: c55 :: c56 :: c57 :: c58 :: c59 :: c60 :: c61 :: c62 :: c63 :: c64 :: c65 :: c66 :: c67 :: c68 :: c69 :: c70 :: c71 :: c72 :: c73 :: c74 :: c75 :: c76 :: c77 :: c78 :: []).toArray, []⟩ w0 := by
  conv => arg 2; whnf
  go_wp2_with (first | ((with_reducible refine wpList_build49 rfl _ rfl _ rfl (#[.int .u8 4, .int .i64 (g : Int), .int .i64 (A : Int), .int .i64 1, .int .i64 0, .int .u8 5, .int .i64 (g : Int), .int .i64 (A1 : Int), .int .i64 1, .int .i64 1, .int .u8 6, .int .i64 (g : Int), .int .i64 (A2 : Int), .int .i64 (q : Int), .int .i64 2, .int .u8 7, .int .i64 (g : Int), .int .i64 (B : Int), .int .i64 (d : Int), .int .i64 (p : Int)]) (by kernel_rfl) ?_); intro X HX; have HXs := Lib.hid (show X.size = 20 by rw [HX.out]; rfl); have HX1 := Lib.hid (show X.all (·.oneCell') = true by rw [HX.out]; simp [Value.oneCell'])) | (refine wpList_store49 rfl _ _ rfl w0 _ X rfl rfl rfl HXs.out HX1.out ?_))
  exact HK.out X HX _ _ _ _ _ _ _ _ _ _ _ _ _ _ _ _ _ _ _ _ _ _ _ _ _ _
#print axioms reg11_wp


set_option maxRecDepth 100000 in
set_option maxHeartbeats 2000000 in
theorem reg12_wp (w0 : World) (X : Array Value) (HS : Hid (X.size = 20)) (c0 c1 c2 c3 c4 c5 c6 c7 c8 c10 c11 c12 c13 c14 c15 c16 c17 c18 c19 c20 c21 c22 c23 c24 c25 c26 c27 c28 c29 c30 c31 c32 c33 c34 c35 c36 c37 c38 c39 c40 c41 c42 c43 c44 c45 c46 c47 c48 c49 c50 c51 c52 c53 c54 c55 c56 c57 c58 c59 c60 c61 c62 c63 c64 c65 c66 c67 c68 c69 c70 c71 c72 c73 c74 c75 c76 c77 c78 : Value) (Q : Exit → Act → World → Prop) (HK : Hid (Q .normal ⟨(c0 :: c1 :: c2 :: c3 :: c4 :: c5 :: c6 :: c7 :: c8 :: .pointer (some ⟨w0.heap.size, 0, none⟩) :: c10 :: c11 :: c12 :: c13 :: c14 :: c15 :: c16 :: c17 :: c18 :: c19 :: c20 :: c21 :: c22 :: c23 :: c24 :: c25 :: c26 :: c27 :: c28 :: c29 :: c30 :: c31 :: c32 :: c33 :: c34 :: c35 :: c36 :: c37 :: c38 :: c39 :: c40 :: c41 :: c42 :: c43 :: c44 :: c45 :: c46 :: c47 :: c48 :: c49 :: c50 :: c51 :: c52 :: c53 :: c54 :: c55 :: c56 :: c57 :: c58 :: c59 :: c60 :: c61 :: c62 :: c63 :: c64 :: c65 :: c66 :: c67 :: c68 :: (.agg X) :: .int .i64 0 :: c71 :: c72 :: c73 :: c74 :: c75 :: c76 :: c77 :: c78 :: []).toArray, []⟩ (w0.alloc (.cells X 49)))) : reg12.wp Try.prog Q ⟨(c0 :: c1 :: c2 :: c3 :: c4 :: c5 :: c6 :: c7 :: c8 :: .pointer (some ⟨w0.heap.size, 0, none⟩) :: c10 :: c11 :: c12 :: c13 :: c14 :: c15 :: c16 :: c17 :: c18 :: c19 :: c20 :: c21 :: c22 :: c23 :: c24 :: c25 :: c26 :: c27 :: c28 :: c29 :: c30 :: c31 :: c32 :: c33 :: c34 :: c35 :: c36 :: c37 :: c38 :: c39 :: c40 :: c41 :: c42 :: c43 :: c44 :: c45 :: c46 :: c47 :: c48 :: c49 :: c50 :: c51 :: c52 :: c53 :: c54 :: c55 :: c56 :: c57 :: c58 :: c59 :: c60 :: c61 :: c62 :: c63 :: c64 :: c65 :: c66 :: c67 :: c68 :: c69 :: c70 :: c71 :: c72 :: c73 :: c74 :: c75 :: c76 :: c77 :: c78 :: []).toArray, []⟩ (w0.alloc (.cells X 49)) := by
  conv => arg 2; whnf
  go_wp2_with (with_reducible refine wpList_load49 rfl _ rfl w0 X rfl HS.out ?_)
  exact HK.out
#print axioms reg12_wp


set_option maxRecDepth 100000 in
set_option maxHeartbeats 2000000 in
theorem grp_loop (n : Nat) (hro : Fence.wide.round = none) (hn : 1 ≤ n) (l n₀ Bn gr sz ni jr q : Nat) (HM : Hid (May gr sz ni jr)) (HQ : Hid (q = ni / 4)) (hBn : Bn < n₀) (J Jx : List Pt → World → Prop) (HY : Hid (Yields Fence.wide n l n₀ (3 + 4 * gr) J Jx)) (HJ : Hid (∀ s W o, J s W → J s (W.alloc o)))
    (W : World) (HN : Hid (n₀ ≤ W.heap.size)) (HC : Hid (GAt W Bn gr sz ni jr)) (Q : Exit → Act → World → Prop) (c2 c4 c5 c6 c7 c8 c9 c10 c11 c12 c13 c14 c15 c16 c17 c18 c19 c20 c21 c22 c23 c24 c25 c26 c27 c28 c29 c30 c33 c34 c35 c36 c37 c38 c39 c40 c41 c42 c43 c44 c45 c46 c47 c48 c49 c50 c51 c52 c53 c54 c55 c56 c57 c58 c59 c60 c61 c62 c63 c64 c65 c66 c67 c68 c69 c70 c71 c72 c73 c74 c75 c76 c77 c78 : Value)
    (HX : Hid (∀ u7 u8 u9 u11 u32 u33 u34 u35 u36 u37 u38 u39 u40 u41 u42 u43 u44 u45 u46 u47 u48 u49 u50 u51 u52 u53 u54 u55 u56 u57 u58 u59 u60 u61 u62 u63 u64 u65 u66 u67 u68 u69 u70 u71 u72 u73 u74 u75 u76 u77 u78 wz, J (partsOf gr sz ni jr) wz → Q (.exit 2) ⟨(.func (.yield l) #[] #[] :: .pointer (some ⟨Bn, 0, none⟩) :: c2 :: .int .i64 (q : Int) :: c4 :: c5 :: c6 :: u7 :: u8 :: u9 :: c10 :: u11 :: c12 :: c13 :: c14 :: c15 :: c16 :: c17 :: c18 :: c19 :: c20 :: c21 :: c22 :: c23 :: c24 :: c25 :: c26 :: c27 :: c28 :: c29 :: c30 :: .int .i64 (gr : Int) :: u32 :: u33 :: u34 :: u35 :: u36 :: u37 :: u38 :: u39 :: u40 :: u41 :: u42 :: u43 :: u44 :: u45 :: u46 :: u47 :: u48 :: u49 :: u50 :: u51 :: u52 :: u53 :: u54 :: u55 :: u56 :: u57 :: u58 :: u59 :: u60 :: u61 :: u62 :: u63 :: u64 :: u65 :: u66 :: u67 :: u68 :: u69 :: u70 :: u71 :: u72 :: u73 :: u74 :: u75 :: u76 :: u77 :: u78 :: []).toArray, []⟩ wz))
    (HR : Hid (∀ (tz : Array Value) wz pre, pre <+: partsOf gr sz ni jr → Jx pre wz → Q .ret ⟨tz, []⟩ wz)) (w0 : World) (HB : Hid (Below n₀ W w0)) (HS : Hid (J (hd3 jr) w0)) :
    (Code.loop body2).wpIn Fence.wide n Try.prog Q ⟨(.func (.yield l) #[] #[] :: .pointer (some ⟨Bn, 0, none⟩) :: c2 :: .int .i64 (q : Int) :: c4 :: c5 :: c6 :: c7 :: c8 :: c9 :: c10 :: c11 :: c12 :: c13 :: c14 :: c15 :: c16 :: c17 :: c18 :: c19 :: c20 :: c21 :: c22 :: c23 :: c24 :: c25 :: c26 :: c27 :: c28 :: c29 :: c30 :: .int .i64 (gr : Int) :: .int .i64 0 :: c33 :: c34 :: c35 :: c36 :: c37 :: c38 :: c39 :: c40 :: c41 :: c42 :: c43 :: c44 :: c45 :: c46 :: c47 :: c48 :: c49 :: c50 :: c51 :: c52 :: c53 :: c54 :: c55 :: c56 :: c57 :: c58 :: c59 :: c60 :: c61 :: c62 :: c63 :: c64 :: c65 :: c66 :: c67 :: c68 :: c69 :: c70 :: c71 :: c72 :: c73 :: c74 :: c75 :: c76 :: c77 :: c78 :: []).toArray, []⟩ w0 := by
  conv => arg 4; arg 1; whnf
  gi_loopw [32] (fun i wr => ∃ g : Nat, g ≤ gr ∧ i = .int .i64 (g : Int) ∧ Below n₀ W wr ∧ J (hd3 jr ++ (List.range g).flatMap (own4 sz ni jr)) wr) (fun i _ => gr - (intOf i).toNat)
  case atStart => exact ⟨0, Nat.zero_le _, rfl, HB.out, by simpa using HS.out⟩
  case round =>
    obtain ⟨g, hg, rfl, hB, hJs⟩ := hrel
    clear HB HS
    have HB := Lib.hid hB
    have HS := Lib.hid hJs
    clear hB hJs
    by_cases hlt : g < gr
    · obtain ⟨c0, c1, c2, c3⟩ := HC.out.below HB.out hBn
      obtain ⟨s, A, A1, A2, B, d, p, hgi, f1, f2, f3, f4, f5, f6, f7, f8, f9, f10, hO⟩ := grp_facts gr sz ni jr q g HM.out HQ.out hlt
      have HO := Lib.hid hO
      have HF := Lib.hid f10
      clear hO f10
      gi_upto_region 11 with (fail)
      refine wpIn_wide.2 (reg11_wp Bn q g A A1 A2 B d p sz wr c1 f4 f5 f6 f7 f8 f9 _ _ _ _ _ _ _ _ _ _ _ _ _ _ _ _ _ _ _ _ _ _ _ _ _ _ _ _ _ _ _ _ _ _ _ _ _ _ _ _ _ _ _ _ _ _ _ _ _ _ _ _ _ _ _ _ _ _ _ _ _ _ _ _ _ _ _ _ _ _ _ _ _ _ _ _ (Lib.hid ?_))
      clear c0 c1 c2 c3 f1 f2 f3 f4 f5 f6 f7 f8 f9 hgi
      intro X HX x43 x44 x45 x46 x47 x48 x49 x50 x51 x52 x53 x54 x55 x56 x57 x58 x59 x60 x61 x62 x63 x64 x65 x66 x67 x68
      have HXs := Lib.hid (show X.size = 20 by rw [HX.out]; rfl)
      gi_upto_region 12 with (fail)
      refine wpIn_wide.2 (reg12_wp wr X HXs _ _ _ _ _ _ _ _ _ _ _ _ _ _ _ _ _ _ _ _ _ _ _ _ _ _ _ _ _ _ _ _ _ _ _ _ _ _ _ _ _ _ _ _ _ _ _ _ _ _ _ _ _ _ _ _ _ _ _ _ _ _ _ _ _ _ _ _ _ _ _ _ _ _ _ _ _ _ _ (Lib.hid ?_))
      gi_wp2
      refine own_loop Fence.wide n hro hn l n₀ (3 + 4 * gr) J Jx HY HJ (hd3 jr ++ (List.range g).flatMap (own4 sz ni jr)) A A1 A2 B d p q g W HN (Lib.hid ?hl) _ X HX _ _ _ _ _ _ _ _ _ _ _ _ _ _ _ _ _ _ _ _ _ _ _ _ _ _ _ _ _ _ _ _ _ _ _ _ _ _ _ _ _ _ _ _ _ _ _ _ _ _ _ _ _ _ _ _ _ _ _ _ _ _ _ _ _ _ _ _ _ _ _ _ _ _ _ _ (Lib.hid ?hx) (Lib.hid ?hr) _ (Lib.hid (HB.out.alloc (Nat.le_trans HN.out HB.out.size) _)) (Lib.hid (HJ.out _ _ _ HS.out))
      case hl => rw [List.length_append, upto_len]; simp [hd3]; omega
      case hr =>
        intro az wz k _ _ hx
        rw [← HO.out] at hx
        exact HR.out _ _ _ (parts_grp gr sz ni jr g hlt _ (List.take_prefix _ _)) hx
      case hx =>
        intro v11 v70 v71 v72 v73 v74 v75 v76 v77 wz hJ4 hB4
        rw [← HO.out] at hJ4
        have hff := HF.out
        gi_wp2
        clear hff
        go_roundw
        case rel => exact ⟨g + 1, by omega, by go_num, hB4, by rw [upto_grp, ← List.append_assoc]; exact hJ4⟩
        case measure => simp [intOf]; omega
    · obtain rfl : g = gr := by omega
      gi_wp2
      exact HX.out _ _ _ _ _ _ _ _ _ _ _ _ _ _ _ _ _ _ _ _ _ _ _ _ _ _ _ _ _ _ _ _ _ _ _ _ _ _ _ _ _ _ _ _ _ _ _ _ _ _ _ _ HS.out
#print axioms grp_loop

set_option maxRecDepth 100000 in
set_option maxHeartbeats 4000000 in
theorem parts1_in (n : Nat) (hro : Fence.wide.round = none) (hn : 1 ≤ n) (l Bn n₀ gr sz ni jr : Nat) (hM : May gr sz ni jr) (hBn : Bn < n₀) (J Jx : List Pt → World → Prop)
    (hY : ∀ pre x W, J pre W → pre.length < 3 + 4 * gr → YieldAt Fence.wide (n - 1) Try.prog l #[x.v] W fun e W' =>
      (e = .returned (.bool true) ∧ J (pre ++ [x]) W' ∧ Below n₀ W W') ∨ (e = .returned (.bool false) ∧ Jx (pre ++ [x]) W'))
    (W : World) (hn₀ : n₀ ≤ W.heap.size) (hJ : AbidesFrom W.heap.size J) (hc : GAt W Bn gr sz ni jr) (h0 : J [] W) :
    CallsIn Fence.wide n Try.prog 31 #[.func (.yield l) #[] #[], .pointer (some ⟨Bn, 0, none⟩)] W fun e W' => (∃ v, e = .returned v) ∧
      ((∃ ys, ys = partsOf gr sz ni jr ∧ J ys W') ∨ (∃ pre, pre <+: partsOf gr sz ni jr ∧ Jx pre W')) := by
  have Y : Yields Fence.wide n l n₀ (3 + 4 * gr) J Jx := by
    intro pre x W vs e h1 h2
    have := hY pre x W h1 h2
    rw [e] at this
    exact this
  have HY := Lib.hid Y
  clear Y hY
  have JA : ∀ s W o, J s W → J s (W.alloc o) := fun s W o h => hJ s W _ none h (World.grownBy_alloc W o none) (by simp)
  have HJ := Lib.hid JA
  clear hJ JA
  have HC := Lib.hid hc
  obtain ⟨c0, c1, c2, c3⟩ := hc
  have HM := Lib.hid hM
  obtain ⟨g1, g2, g3, g4, g5, g6, g7, g8, g9, g10, g11⟩ := hM
  obtain ⟨q, hq⟩ : ∃ q : Nat, q = ni / 4 := ⟨_, rfl⟩
  have e0 : ((ni : Int)).tdiv 4 = (q : Int) := by rw [Int.tdiv_eq_ediv_of_nonneg (by omega)]; omega
  have e1 : IntKind.i64.wrap ((ni : Int).tdiv 4) = (q : Int) := by rw [e0]; exact IntWalk.i64_in _ (by omega)
  have e1' : IntKind.i64.wrap (q : Int) = (q : Int) := IntWalk.i64_in _ (by omega)
  have HQ := Lib.hid hq
  have H0 := Lib.hid h0
  have HN := Lib.hid hn₀
  clear hq h0 hn₀ g1 g2 g3 g4 g5 g6 g7 g8 g9 g10 g11
  refine callsIn_of_wp Try.func31 rfl trivial ?_ hro
  simp only [Try.ntmps31, List.size_toArray, List.length_cons, List.length_nil, Nat.reduceAdd, Nat.reduceSub, Array.replicate_succ, Array.replicate_zero, List.push_toArray, List.append_toArray, List.nil_append, List.cons_append]
  gi_wp2
  clear c0 c1 c2 c3
  gi_loopw [22] (fun i wr => Below n₀ W wr ∧ ((i = .int .i64 0 ∧ J [] wr) ∨ (i = .int .i64 1 ∧ J ((hd3 jr).take 1) wr) ∨ (i = .int .i64 2 ∧ J ((hd3 jr).take 2) wr) ∨ (i = .int .i64 3 ∧ J (hd3 jr) wr)))
    (fun i _ => 3 - (intOf i).toNat)
  case atStart => exact ⟨(Below.refl _ _).alloc HN.out _, .inl ⟨rfl, HJ.out _ _ _ H0.out⟩⟩
  case round =>
    obtain ⟨hB, ⟨rfl, hJs⟩ | ⟨rfl, hJs⟩ | ⟨rfl, hJs⟩ | ⟨rfl, hJs⟩⟩ := hrel
    all_goals have HB := Lib.hid hB
    all_goals have HS := Lib.hid hJs
    all_goals clear hB hJs
    · as_aux_lemma =>
        obtain ⟨fn, tmps, assign, body, hy, hR⟩ := HY.out [] ⟨1, 0, 0, 1, 0⟩ (wr.alloc (.cells #[.int .u8 1, .int .i64 0, .int .i64 0, .int .i64 1, .int .i64 0] 46)) #[.int .u8 1, .int .i64 0, .int .i64 0, .int .i64 1, .int .i64 0] rfl (HJ.out _ _ _ HS.out) (by simp [hd3]; try omega)
        gi_wp2
        refine hR.mono ?_
        rintro e W3 (⟨rfl, hJ3, hk3⟩ | ⟨rfl, hJx3⟩)
        · gi_wp2
          go_roundw
          case rel => exact ⟨(HB.out.alloc (Nat.le_trans HN.out HB.out.size) _).trans hk3, .inr (.inl ⟨rfl, hJ3⟩)⟩
          case measure => simp [intOf]
        · gi_wp2
          refine bodyPost_ret (results_none rfl _ _ _) rfl ?_
          exact ⟨⟨_, rfl⟩, .inr ⟨_, ⟨(hd3 jr).drop 1 ++ (List.range gr).flatMap (own4 sz ni jr), rfl⟩, hJx3⟩⟩
    · as_aux_lemma =>
        obtain ⟨fn, tmps, assign, body, hy, hR⟩ := HY.out ((hd3 jr).take 1) ⟨2, 0, 1, 1, 0⟩ (wr.alloc (.cells #[.int .u8 2, .int .i64 0, .int .i64 1, .int .i64 1, .int .i64 0] 46)) #[.int .u8 2, .int .i64 0, .int .i64 1, .int .i64 1, .int .i64 0] rfl (HJ.out _ _ _ HS.out) (by simp [hd3]; try omega)
        gi_wp2
        refine hR.mono ?_
        rintro e W3 (⟨rfl, hJ3, hk3⟩ | ⟨rfl, hJx3⟩)
        · gi_wp2
          go_roundw
          case rel => exact ⟨(HB.out.alloc (Nat.le_trans HN.out HB.out.size) _).trans hk3, .inr (.inr (.inl ⟨rfl, hJ3⟩))⟩
          case measure => simp [intOf]
        · gi_wp2
          refine bodyPost_ret (results_none rfl _ _ _) rfl ?_
          exact ⟨⟨_, rfl⟩, .inr ⟨_, ⟨(hd3 jr).drop 2 ++ (List.range gr).flatMap (own4 sz ni jr), rfl⟩, hJx3⟩⟩
    · as_aux_lemma =>
        obtain ⟨fn, tmps, assign, body, hy, hR⟩ := HY.out ((hd3 jr).take 2) ⟨3, 0, 2, jr, 0⟩ (wr.alloc (.cells #[.int .u8 3, .int .i64 0, .int .i64 2, .int .i64 (jr : Int), .int .i64 0] 46)) #[.int .u8 3, .int .i64 0, .int .i64 2, .int .i64 (jr : Int), .int .i64 0] rfl (HJ.out _ _ _ HS.out) (by simp [hd3]; try omega)
        gi_wp2
        refine hR.mono ?_
        rintro e W3 (⟨rfl, hJ3, hk3⟩ | ⟨rfl, hJx3⟩)
        · gi_wp2
          go_roundw
          case rel => exact ⟨(HB.out.alloc (Nat.le_trans HN.out HB.out.size) _).trans hk3, .inr (.inr (.inr ⟨rfl, hJ3⟩))⟩
          case measure => simp [intOf]
        · gi_wp2
          refine bodyPost_ret (results_none rfl _ _ _) rfl ?_
          exact ⟨⟨_, rfl⟩, .inr ⟨_, ⟨(hd3 jr).drop 3 ++ (List.range gr).flatMap (own4 sz ni jr), rfl⟩, hJx3⟩⟩
    · obtain ⟨c0, c1, c2, c3⟩ := HC.out.below HB.out hBn
      gi_wp2
      clear c0 c1 c2 c3
      refine grp_loop n hro hn l n₀ Bn gr sz ni jr q HM HQ hBn J Jx HY HJ W HN HC _ _ _ _ _ _ _ _ _ _ _ _ _ _ _ _ _ _ _ _ _ _ _ _ _ _ _ _ _ _ _ _ _ _ _ _ _ _ _ _ _ _ _ _ _ _ _ _ _ _ _ _ _ _ _ _ _ _ _ _ _ _ _ _ _ _ _ _ _ _ _ _ _ _ _ (Lib.hid ?hx) (Lib.hid ?hr) _ HB HS
      case hr =>
        intro tz wz pre hp hx
        gi_wp2
        refine bodyPost_ret (results_none rfl _ _ _) rfl ?_
        exact ⟨⟨_, rfl⟩, .inr ⟨_, hp, hx⟩⟩
      case hx =>
        intro x7 x8 x9 x11 x32 x33 x34 x35 x36 x37 x38 x39 x40 x41 x42 x43 x44 x45 x46 x47 x48 x49 x50 x51 x52 x53 x54 x55 x56 x57 x58 x59 x60 x61 x62 x63 x64 x65 x66 x67 x68 x69 x70 x71 x72 x73 x74 x75 x76 x77 x78 wz hx
        gi_wp2
        go_end0
        exact ⟨⟨_, rfl⟩, .inl ⟨_, rfl, hx⟩⟩
#print axioms parts1_in

end Go.Proofs.Ytgakdaohhbdjoaa
