/- What the document's All computes: the walk. -/
import Derived.Test.YtgakdaohhbdjoaaG5
import Derived.Laws.OwnMore
set_option linter.unusedVariables false
set_option linter.unusedSimpArgs false
namespace Go.Proofs.Ytgakdaohhbdjoaa
open Go.RowKit

/-- what a block is -/
structure Th where
  kind : Nat
  group : Nat
  pos : Nat
  ino : Nat
def Th.cells (t : Th) : List Value := [.int .u8 (t.kind : Int), .int .i64 (t.group : Int), .int .i64 (t.pos : Int), .int .i64 (t.ino : Int)]
def cellsOf (l : List Th) : List Value := l.flatMap Th.cells
theorem cellsOf_length (l : List Th) : (cellsOf l).length = l.length * 4 := by
  induction l with
  | nil => rfl
  | cons t l ih => simp only [cellsOf, List.flatMap_cons, List.length_append, List.length_cons] at ih ⊢; rw [ih]; simp [Th.cells]; omega
theorem cellsOf_append (a b : List Th) : cellsOf (a ++ b) = cellsOf a ++ cellsOf b := List.flatMap_append
theorem cellsOf_one (l : List Th) : ∀ u ∈ cellsOf l, u.oneCell' = true := by
  intro u hu
  obtain ⟨t, _, h⟩ := List.mem_flatMap.1 hu
  simp only [Th.cells, List.mem_cons, List.not_mem_nil, or_false] at h
  rcases h with rfl | rfl | rfl | rfl <;> rfl
def jth (i : Nat) : Th := ⟨3, 0, i, 0⟩
def tth (ni g i : Nat) : Th := ⟨6, g, 2 + i, 1 + g * ni + 4 * i⟩
def dth (ni g i : Nat) : Th := ⟨7, g, 2 + ni / 4 + i, 0⟩
def head2 : List Th := [⟨1, 0, 0, 0⟩, ⟨2, 0, 0, 0⟩]
def grp2 (g : Nat) : List Th := [⟨4, g, 0, 0⟩, ⟨5, g, 1, 0⟩]
def grp (sz ni g : Nat) : List Th := grp2 g ++ (List.range (ni / 4)).map (tth ni g) ++ (List.range (sz - 2 - ni / 4)).map (dth ni g)
def allT (gr sz ni jr : Nat) : List Th := head2 ++ (List.range jr).map jth ++ (List.range gr).flatMap (grp sz ni)
theorem grp_length (sz ni g : Nat) (h : 2 + ni / 4 ≤ sz) : (grp sz ni g).length = sz := by simp [grp, grp2]; omega
theorem info41 : (Try.prog.info? 41).map (fun i => (i.zero, i.size, i.bytes)) = some (some (.agg #[.int .u8 0, .int .i64 0, .int .i64 0, .int .i64 0]), 4, 32) := by kernel_rfl
/-- a row of things -/
def Things (w : World) (base : Nat) (v : Value) (l : List Th) : Prop := w.ownsRow base 41 4 v l.length (cellsOf l)

theorem append_ths {w : World} {ops : Array Oper} {rest : List Oper} {o : Oper} {a : Act} {Q : Exit → Act → World → Prop} (hgd : o.guard = none) (s x : Operand)
    (ho : o.op = .call { callee := .builtin .append, args := #[s, x], argTypes := #[38, 38] })
    (base : Nat) (v : Value) (l : List Th) (hs : a.eval s = v) (hown : Things w base v l) (ts : List Th) (g : Nat) (m : Nat) (hx : a.eval x = .slice (some ⟨g, 0, none⟩) m m) (hm : ts.length = m)
    (hg : w.heap[g]? = some (.cells (cellsOf ts).toArray 41 (0, 0))) (hlen : l.length + m ≤ 1000000) (hbase : base ≤ w.heap.size)
    (h : ∀ v' w', Things w' base v' (l ++ ts) → w.grownBy w' v.ownBlock → wpList Try.prog ops Q rest (a.put o.dst v') w') :
    wpList Try.prog ops Q (o :: rest) a w := by
  obtain ⟨i0, hi, hz0, hz1, hz2⟩ := info_parts info41
  refine wpList_append_own w hgd s x 38 ho base 41 i0 (.agg #[.int .u8 0, .int .i64 0, .int .i64 0, .int .i64 0]) 4 32 Try.underlying38 hi hz0 hz1 hz2 rfl (by decide) v l.length (cellsOf l) hs hown ⟨g, 0, none⟩ m m (cellsOf ts) hx (by rw [cellsOf_length, hm]) ?_ (cellsOf_one ts) (by unfold maxLen; omega) (by omega) hbase ?_
  · intro j u hu
    have e : (⟨g, 0, none⟩ : Addr).add j = ⟨g, j, none⟩ := by unfold Addr.add; split <;> simp_all
    rw [e]
    simp only [World.cell?, hg]
    show (cellsOf ts).toArray[j]? = _
    simpa using hu
  · intro v' w' h1 h2 _
    refine h v' w' ?_ h2
    unfold Things
    rw [List.length_append, cellsOf_append, hm]
    exact h1
theorem Things.grow {w w' : World} {base : Nat} {v : Value} {l : List Th} (h : Things w base v l) (hg : Grow w w') : Things w' base v l := by
  obtain ⟨hl, h⟩ := h
  refine ⟨hl, ?_⟩
  rcases h with h | ⟨g, cap, cur, hv, hb, hh, r⟩
  · exact .inl h
  · refine .inr ⟨g, cap, cur, hv, hb, ?_, r⟩
    have hlt : g < w.heap.size := by
      rcases Nat.lt_or_ge g w.heap.size with h1 | h1
      · exact h1
      · rw [Array.getElem?_eq_none h1] at hh; cases hh
    rw [← hh]
    exact Below.block hg g hlt
theorem Things.lt {w : World} {base : Nat} {v : Value} {l : List Th} (h : Things w base v l) (g : Nat) (hg : v.ownBlock = some g) : base ≤ g := (World.ownsRow.lt h g hg).1
theorem heap_new (w : World) (o : Obj) : (w.alloc o).heap[w.heap.size]? = some o := by
  show (w.heap.push o)[w.heap.size]? = _
  simp
/-- a row that was just laid -/
theorem things_new (w : World) (base : Nat) (l : List Th) (hb : base ≤ w.heap.size) (hl : l.length ≤ 1000) : Things (w.alloc (.cells (cellsOf l).toArray 41)) base (.slice (some ⟨w.heap.size, 0, none⟩) l.length l.length) l := by
  refine ⟨cellsOf_length l, .inr ⟨w.heap.size, l.length, (cellsOf l).toArray, rfl, hb, heap_new w _, Nat.le_refl _, by unfold maxLen; omega, by simp [cellsOf_length], ?_⟩⟩
  rw [← cellsOf_length]; simp
theorem grown_grow {w w1 w2 : World} {row : Option Nat} (h : Grow w w1) (hg : w1.grownBy w2 row) (hr : ∀ g, row = some g → w.heap.size ≤ g) : Grow w w2 := Below.grown h hg (Below.size h) hr

set_option maxHeartbeats 4000000 in
theorem rall_yes (gr sz ni jr : Nat) (h : May gr sz ni jr) (w : World) :
    Calls Try.prog 29 #[gv gr sz ni jr] w fun e w' => (∃ v, e = .returned v ∧ Things w' w.heap.size v (allT gr sz ni jr)) ∧ Grow w w' := by
  have HM := Lib.hid h
  obtain ⟨g1, g2, g3, g4, g5, g6, g7, g8, g9, g10, g11⟩ := h
  have h4 : ni % 4 = 0 := by omega
  have H4 := Lib.hid h4
  clear h4 g7
  go_enter Try.func29, Try.ntmps29
  go_wp2_with fail
  refine (rmay_yes gr sz ni jr HM.out _).mono ?_
  rintro e w1 ⟨rfl, hg⟩
  obtain ⟨c0, c1, c2, c3⟩ := box_at hg
  have HG := Lib.hid hg
  clear hg
  go_wp2_with fail
  have hsz1 : w.heap.size + 1 ≤ w1.heap.size := by have := Below.size HG.out; simpa using this
  have T0 := Lib.hid (things_new w1 (w.heap.size + 1) head2 hsz1 (by decide))
  have G0 := Lib.hid (HG.out.trans (Grow.alloc w1 (.cells (cellsOf head2).toArray 41)))
  clear hsz1 c0 c1 c2 c3
  go_loopw [3, 4] (fun v i wr => ∃ k : Nat, k ≤ jr ∧ i = .int .i64 (k : Int) ∧ Things wr (w.heap.size + 1) v (head2 ++ (List.range k).map jth) ∧ Grow (w.alloc (gbox gr sz ni jr)) wr) (fun _ i _ => jr - (intOf i).toNat)
  case atStart => exact ⟨0, by omega, rfl, T0.out, G0.out⟩
  case round =>
    obtain ⟨k, hk, rfl, hth, hgr⟩ := hrel
    obtain ⟨c0, c1, c2, c3⟩ := box_at hgr
    have HTH := Lib.hid hth
    have HGR := Lib.hid hgr
    have hszr : w.heap.size + 1 ≤ wr.heap.size := by have := Below.size hgr; simpa using this
    clear hth hgr
    by_cases hlt : k < jr
    · go_wp2_with (at_builtin; refine append_ths rfl (.tmp 21) (.tmp 24) rfl (w.heap.size + 1) _ _ rfl (HTH.out.grow (Grow.alloc _ _)) [jth k] wr.heap.size 1 rfl rfl ?c1 ?c2 ?c3 ?_)
      case c1 => rw [heap_new]; rfl
      case c2 => simp [head2]; omega
      case c3 => simp; omega
      intro v' w2 hth2 hgw
      have HT2 := Lib.hid hth2
      have HG2 := Lib.hid (grown_grow (HGR.out.trans (Grow.alloc _ _)) hgw (fun g hg => by have := HTH.out.lt g hg; simpa using this))
      clear hth2 hgw
      go_wp2_with fail
      go_roundw
      case rel =>
        refine ⟨k + 1, by omega, by go_num, ?_, HG2.out⟩
        have := HT2.out
        rw [List.range_succ, List.map_append, ← List.append_assoc]
        exact this
      case measure => simp only [intOf]; omega
    · obtain rfl : k = jr := by omega
      obtain ⟨wo, rfl⟩ : ∃ wo : World, wo = wr := ⟨_, rfl⟩
      go_wp2_with fail
      clear c0 c1 c2 c3 hszr
      go_loopw [3, 5, 6] (fun v n i wx => ∃ g N : Nat, g ≤ gr ∧ n = .int .i64 (N : Int) ∧ N = 1 + g * ni ∧ i = .int .i64 (g : Int) ∧ Things wx (w.heap.size + 1) v (head2 ++ (List.range k).map jth ++ (List.range g).flatMap (grp sz ni)) ∧ Grow (w.alloc (gbox gr sz ni k)) wx) (fun _ _ i _ => gr - (intOf i).toNat)
      case atStart => exact ⟨0, 1, by omega, rfl, by omega, rfl, by simpa using HTH.out, HGR.out⟩
      case round =>
        obtain ⟨g, N, hgk, rfl, hN, rfl, hth, hgr⟩ := hrel
        have HN := Lib.hid hN
        clear hN
        obtain ⟨c0, c1, c2, c3⟩ := box_at hgr
        have HTH := Lib.hid hth
        have HGR := Lib.hid hgr
        have hszr : w.heap.size + 1 ≤ wr.heap.size := by have := Below.size hgr; simpa using this
        clear hth hgr
        by_cases hlt : g < gr
        · have hgn : g * ni ≤ 256 := Nat.le_trans (Nat.mul_le_mul (show g ≤ 4 by omega) (show ni ≤ 64 by omega)) (by omega)
          have hll : (head2 ++ (List.range k).map jth ++ (List.range g).flatMap (grp sz ni)).length ≤ 100000 := by
            have hf : ∀ m, ((List.range m).flatMap (grp sz ni)).length = m * sz := by
              intro m
              induction m with
              | zero => simp
              | succ m ih => rw [List.range_succ, List.flatMap_append, List.length_append, ih]; simp [grp_length sz ni m (by omega), Nat.add_mul]
            have hgs : g * sz ≤ 4 * 512 := Nat.mul_le_mul (by omega) (by omega)
            simp only [List.length_append, hf]
            simp [head2]
            omega
          generalize hL : head2 ++ (List.range k).map jth ++ (List.range g).flatMap (grp sz ni) = L at *
          have HL := Lib.hid hL
          clear hL
          go_wp2_with (at_builtin; refine append_ths rfl (.tmp 32) (.tmp 37) rfl (w.heap.size + 1) _ _ rfl (HTH.out.grow (Grow.alloc _ _)) (grp2 g) wr.heap.size 2 rfl rfl ?c1 ?c2 ?c3 ?_)
          case c1 => rw [heap_new]; rfl
          case c2 => omega
          case c3 => simp; omega
          intro v' w2 hth2 hgw
          have HT2 := Lib.hid hth2
          have hg2 := grown_grow (HGR.out.trans (Grow.alloc _ _)) hgw (fun g hg => by have := HTH.out.lt g hg; simpa using this)
          have HG2 := Lib.hid hg2
          clear c0 c1 c2 c3
          obtain ⟨c0, c1, c2, c3⟩ := box_at hg2
          clear hth2 hgw hg2
          go_wp2_with fail
          clear c0 c1 c2 c3
          obtain ⟨wp, rfl⟩ : ∃ wp : World, wp = wr := ⟨_, rfl⟩
          go_loopw [3, 5, 7] (fun v n i wx => ∃ m M I : Nat, m ≤ ni / 4 ∧ n = .int .i64 (M : Int) ∧ M = 1 + g * ni + 4 * m ∧ i = .int .i64 (I : Int) ∧ I = 4 * m ∧ Things wx (w.heap.size + 1) v (L ++ grp2 g ++ (List.range m).map (tth ni g)) ∧ Grow (w.alloc (gbox gr sz ni k)) wx) (fun _ _ i _ => ni - (intOf i).toNat)
          case atStart => exact ⟨0, N, 0, by omega, rfl, by rw [HN.out]; omega, rfl, rfl, by simpa using HT2.out, HG2.out⟩
          case round =>
            obtain ⟨m, M, I, hm, rfl, hM, rfl, hI, hth, hgr⟩ := hrel
            have HMM := Lib.hid hM
            have HII := Lib.hid hI
            have hI256 : I ≤ 256 := by omega
            have hM1000 : M ≤ 1000 := by omega
            clear hM
            obtain ⟨c0, c1, c2, c3⟩ := box_at hgr
            have HTH3 := Lib.hid hth
            have HGR3 := Lib.hid hgr
            have hszr3 : w.heap.size + 1 ≤ wr.heap.size := by have := Below.size hgr; simpa using this
            have h4 := H4.out
            clear hth hgr
            by_cases hml : m < ni / 4
            · have hq : (I : Int) / 4 = (m : Int) := by omega
              have hlt4 : I < ni := by omega
              clear h4 hI
              go_wp2_with (at_builtin; refine append_ths rfl (.tmp 45) (.tmp 52) rfl (w.heap.size + 1) _ _ rfl (HTH3.out.grow (Grow.alloc _ _)) [tth ni g m] wr.heap.size 1 rfl rfl ?d1 ?d2 ?d3 ?_)
              case d1 => rw [heap_new]; simp [cellsOf, Th.cells, tth, HMM.out]
              case d2 => simp [grp2]; omega
              case d3 => simp; omega
              intro v3 w3 hth3 hgw3
              have HT3 := Lib.hid hth3
              have HG3 := Lib.hid (grown_grow (HGR3.out.trans (Grow.alloc _ _)) hgw3 (fun g hg => by have := HTH3.out.lt g hg; simpa using this))
              clear hth3 hgw3
              go_wp2_with fail
              go_roundw
              case rel =>
                refine ⟨m + 1, M + 4, I + 4, by omega, by go_num, by rw [HMM.out]; omega, by go_num, by rw [HII.out]; omega, ?_, HG3.out⟩
                have := HT3.out
                rw [List.range_succ, List.map_append]
                simpa [List.append_assoc] using this
              case measure => simp only [intOf]; omega
            · have hme : m = ni / 4 := by omega
              have hge : ¬ I < ni := by omega
              have hnm : ni = 4 * m := by omega
              have HME := Lib.hid hme
              have HNM := Lib.hid hnm
              clear hme h4 hnm hI
              go_wp2_with fail
              clear c0 c1 c2 c3
              obtain ⟨wq, rfl⟩ : ∃ wq : World, wq = wr := ⟨_, rfl⟩
              go_loopw [3, 8] (fun v i wx => ∃ d pos : Nat, d ≤ sz - 2 - ni / 4 ∧ i = .int .i64 (pos : Int) ∧ pos = 2 + ni / 4 + d ∧ Things wx (w.heap.size + 1) v (L ++ grp2 g ++ (List.range m).map (tth ni g) ++ (List.range d).map (dth ni g)) ∧ Grow (w.alloc (gbox gr sz ni k)) wx) (fun _ i _ => sz - (intOf i).toNat)
              case atStart => exact ⟨0, 2 + ni / 4, by omega, by simp, rfl, by simpa using HTH3.out, HGR3.out⟩
              case round =>
                obtain ⟨d, pos, hd, rfl, hpos, hth, hgr⟩ := hrel
                have HPOS := Lib.hid hpos
                obtain ⟨c0, c1, c2, c3⟩ := box_at hgr
                have HTH4 := Lib.hid hth
                have HGR4 := Lib.hid hgr
                have hszr4 : w.heap.size + 1 ≤ wr.heap.size := by have := Below.size hgr; simpa using this
                clear hth hgr
                by_cases hdl : d < sz - 2 - ni / 4
                · have hlt4 : pos < sz := by omega
                  clear hpos
                  go_wp2_with (at_builtin; refine append_ths rfl (.tmp 66) (.tmp 70) rfl (w.heap.size + 1) _ _ rfl (HTH4.out.grow (Grow.alloc _ _)) [dth ni g d] wr.heap.size 1 rfl rfl ?e1 ?e2 ?e3 ?_)
                  case e1 => rw [heap_new, HPOS.out]; rfl
                  case e2 => simp [grp2]; omega
                  case e3 => simp; omega
                  intro v4 w4 hth4 hgw4
                  have HT4 := Lib.hid hth4
                  have HG4 := Lib.hid (grown_grow (HGR4.out.trans (Grow.alloc _ _)) hgw4 (fun g hg => by have := HTH4.out.lt g hg; simpa using this))
                  clear hth4 hgw4
                  go_wp2_with fail
                  go_roundw
                  case rel =>
                    refine ⟨d + 1, pos + 1, by omega, by go_num, by rw [HPOS.out]; omega, ?_, HG4.out⟩
                    have := HT4.out
                    rw [List.range_succ, List.map_append]
                    simpa [List.append_assoc] using this
                  case measure => simp only [intOf]; omega
                · have hde : d = sz - 2 - ni / 4 := by omega
                  have hge4 : ¬ pos < sz := by omega
                  have HDE := Lib.hid hde
                  clear hde hpos
                  go_wp2_with fail
                  go_roundw
                  case rel =>
                    refine ⟨g + 1, M, by omega, rfl, ?_, by go_num, ?_, HGR4.out⟩
                    · have h1 := HNM.out
                      have h2 : (g + 1) * ni = g * ni + ni := by rw [Nat.add_mul]; omega
                      have h3 := HMM.out
                      omega
                    · have := HTH4.out
                      rw [HME.out, HDE.out, ← HL.out] at this
                      rw [List.range_succ, List.flatMap_append]
                      simpa [grp, List.append_assoc] using this
                  case measure => simp only [intOf]; omega
        · obtain rfl : g = gr := by omega
          go_wp2_with fail
          go_ret
          refine ⟨⟨_, rfl, ?_⟩, (Grow.alloc _ _).trans HGR.out⟩
          obtain ⟨hl, h⟩ := HTH.out
          refine ⟨hl, ?_⟩
          rcases h with h | ⟨g, cap, cur, hv, hb, r⟩
          · exact .inl h
          · exact .inr ⟨g, cap, cur, hv, by omega, r⟩
end Go.Proofs.Ytgakdaohhbdjoaa
