/- The law CrcMixed: the walk. -/
import Derived.Test.YtcodhmfmdjopeaaDoorW5
import Derived.Test.YtcodhmfmdjopeaaDoorPlain2
import Derived.Deep.LoopGhost
set_option linter.unusedVariables false
set_option linter.unusedSimpArgs false
namespace Go.Proofs.YtcodhmfmdjopeaaDoor
open Go.RowKit
open CrcPlain (sh shn tm steps one step run mix)

theorem own_grow {w w' : World} {base : Nat} {e : TypeId} {size : Nat} {v : Value} {n : Nat} {xs : List Value} (h : w.ownsRow base e size v n xs) (hg : Grow w w') : w'.ownsRow base e size v n xs := by
  obtain ⟨hl, h⟩ := h
  refine ⟨hl, ?_⟩
  rcases h with h | ⟨g, cap, cur, hv, hb, hh, r⟩
  · exact .inl h
  · refine .inr ⟨g, cap, cur, hv, hb, ?_, r⟩
    have hlt : g < w.heap.size := by
      rcases Nat.lt_or_ge g w.heap.size with h1 | h1
      · exact h1
      · rw [Array.getElem?_eq_none h1] at hh; cases hh
    rw [← hh]
    exact Below.block hg g hlt
theorem own_bytes {w : World} {base : Nat} {e : TypeId} {v : Value} {n : Nat} {bs : List Nat} (h : w.ownsRow base e 1 v n (bs.map fun x => Value.int .u8 ((x : Nat) : Int))) (hs : ∀ x ∈ bs, x < 256) :
    ∃ A c, v = .slice A n c ∧ Bytes w A n bs := by
  have hl : bs.length = n := by have := h.1; simpa using this
  rcases h.2 with ⟨hv, h0⟩ | ⟨g, cap, cur, hv, _, hh, hc, _, hsz, ht⟩
  · subst h0
    exact ⟨none, 0, hv, hl, hs, by omega⟩
  · refine ⟨_, cap, hv, hl, hs, fun _ => ⟨_, rfl, fun j hj => ?_⟩⟩
    rw [add_zero_off]
    simp only [World.cell?, hh]
    show cur[j]? = _
    have h1 : (cur.toList.take (n * 1))[j]? = cur[j]? := by
      rw [List.getElem?_take_of_lt (by omega)]; simp
    rw [← h1, ht, List.getElem?_map, List.getD_eq_getElem?_getD]
    have : j < bs.length := by omega
    simp [this]
theorem u8_xor3 (a b c : Nat) (ha : a < 256) (hb : b < 256) (hc : c < 256) : bits .xor .u8 (a : Int) (b : Int) = ((a ^^^ b : Nat) : Int) ∧ bits .xor .u8 ((a ^^^ b : Nat) : Int) (c : Int) = ((a ^^^ b ^^^ c : Nat) : Int) := by
  have h : a ^^^ b < 2 ^ 8 := Nat.xor_lt_two_pow (by omega) (by omega)
  exact ⟨u8_xor_nat a b ha hb, u8_xor_nat (a ^^^ b) c (by omega) hc⟩
theorem info8 : (Tryd.prog.info? 5).map (fun i => (i.zero, i.size, i.bytes)) = some (some (.int .u8 0), 1, 1) := by kernel_rfl
/-- a new cell with a byte, wherever it lies -/
def OneByte (z : Int) : Value → World → Prop := fun v w => ∃ b, v = .slice (some ⟨b, 0, none⟩) 1 1 ∧ w.cell? ⟨b, 0, none⟩ = some (.int .u8 z)
theorem oneByte_stab (z : Int) : Stab Grow (OneByte z) := fun _ _ _ hg ⟨b, hv, hc⟩ => ⟨b, hv, Ext.below hg _ _ hc⟩

set_option maxRecDepth 100000 in
set_option maxHeartbeats 2000000 in
theorem mixed_walk (p q r : Piece) (n : Nat) (w : World) (ht : Tab w) (hp : p.ok w) (hq : q.ok w) (hr : r.ok w) (cp : p.n ≤ p.c) (cq : q.n ≤ q.c) (cr : r.n ≤ r.c) (np : p.n ≤ 140737488351232) (nq : q.n ≤ 140737488351232) (nr : r.n ≤ 140737488351232)
    (hn : n = min (min p.n q.n) r.n) (hle : n ≤ 20000) :
    Calls Tryd.prog 7 #[.slice p.A p.n p.c, .slice q.A q.n q.c, .slice r.A r.n r.c] w fun e w' => e = .returned (.bool true) ∧ Below w.heap.size w w' := by
  have HT := Lib.hid ht
  have HP := Lib.hid hp
  have HQ := Lib.hid hq
  have HR := Lib.hid hr
  clear ht hp hq hr
  obtain ⟨pA, pn, pc, ps⟩ := p
  obtain ⟨qA, qn, qc, qs⟩ := q
  obtain ⟨rA, rn, rc, rs⟩ := r
  dsimp only at np nq nr cp cq cr hn ⊢
  have hnp : n ≤ pn := by omega
  have hnq : n ≤ qn := by omega
  have hnr : n ≤ rn := by omega
  have hmin : ∀ (ts : Array TypeId) (t : TypeId) (w : World), (Builtin.min_ ts t #[.int .i64 (pn : Int), .int .i64 (qn : Int), .int .i64 (rn : Int)]).run Tryd.prog w = .ok (.int .i64 (n : Int)) w := by
    intro ts t w
    rw [run_min_int3]
    congr 2
    split <;> split at * <;> omega
  clear hn
  go_enter Tryd.func7, Tryd.ntmps7
  go_wp2_with fail
  refine (awake_any _ HT.out).mono ?_
  rintro e w1 ⟨rfl, hb⟩
  have HB := Lib.hid hb
  clear hb
  go_wp2_with fail
  go_loopw [8, 9] (fun v i wr => ∃ k : Nat, k ≤ n ∧ i = .int .i64 (k : Int) ∧ wr.ownsRow w1.heap.size 5 1 v k ((mix ps qs rs k).map fun x => Value.int .u8 ((x : Nat) : Int)) ∧ Below w1.heap.size w1 wr) (fun _ i _ => n - (intOf i).toNat)
  case atStart => exact ⟨0, by omega, rfl, World.ownsRow_nil _ _ _ _, Below.refl _ _⟩
  case round =>
    obtain ⟨k, hk, rfl, hown, hbw⟩ := hrel
    have HO := Lib.hid hown
    have HBW := Lib.hid hbw
    have E0 := Lib.hid ((Ext.below HB.out).trans (Ext.below hbw))
    clear hown hbw
    by_cases hlt : k < n
    · obtain ⟨lp, sp, cp'⟩ := HP.out
      obtain ⟨lq, sq, cq'⟩ := HQ.out
      obtain ⟨lr, sr, cr'⟩ := HR.out
      obtain ⟨ap, rfl, cp'⟩ := cp' (by dsimp only; omega)
      obtain ⟨aq, rfl, cq'⟩ := cq' (by dsimp only; omega)
      obtain ⟨ar, rfl, cr'⟩ := cr' (by dsimp only; omega)
      dsimp only at lp lq lr sp sq sr cp' cq' cr'
      have CP := Lib.hid (E0.out _ _ (cp' k (by omega)))
      have CQ := Lib.hid (E0.out _ _ (cq' k (by omega)))
      have CR := Lib.hid (E0.out _ _ (cr' k (by omega)))
      have g : ∀ (l : List Nat), (∀ x ∈ l, x < 256) → k < l.length → l.getD k 0 < 256 := fun l hl hn => by
        rw [List.getD_eq_getElem?_getD, List.getElem?_eq_getElem hn]; exact hl _ (List.getElem_mem hn)
      have xp := g ps sp (by omega)
      have xq := g qs sq (by omega)
      have xr := g rs sr (by omega)
      have HM := Lib.hid (CrcPlain.mix_succ ps qs rs k)
      clear cp' cq' cr' sp sq sr lp lq lr g
      generalize ps.getD k 0 = x at *
      generalize qs.getD k 0 = y at *
      generalize rs.getD k 0 = z at *
      obtain ⟨ex1, ex2⟩ := u8_xor3 x y z xp xq xr
      generalize hxy : x ^^^ y = xy at *
      generalize hxyz : xy ^^^ z = xyz at *
      clear hxy hxyz
      have kp : k < pn := by omega
      have kq : k < qn := by omega
      have kr : k < rn := by omega
      obtain ⟨i0, hi, hz0, hz1, hz2⟩ := info_parts info8
      have HI := Lib.hid hi
      have HZ0 := Lib.hid hz0
      have HZ1 := Lib.hid hz1
      have HZ2 := Lib.hid hz2
      clear hi hz0 hz1 hz2
      go_wp2_with fail
      refine wp_region_facts_tail 16 (by kernel_rfl) (by kernel_rfl) [[], [], [], [(1, some 27), (2, some 28)], [(3, some 29)], [], [], [(5, some 31), (6, some 32)], [(7, some 33)], [(4, some 30), (8, some 34)], [], [], [(10, some 36), (11, some 37)], [(12, some 38)], [(9, some 35), (13, some 39)], [(14, some 40)]] [(0, some 26), (1, some 27), (2, some 28), (3, some 29), (4, some 30), (5, some 31), (6, some 32), (7, some 33), (8, some 34), (9, some 35), (10, some 36), (11, some 37), (12, some 38), (13, some 39), (14, some 40), (15, some 41)] (by kernel_rfl) (by kernel_rfl) (by kernel_rfl) (Grow) Grow.refl Grow.trans [Is (u8), Is (Value.slice (some ap) pn pc), Is (Value.int .i64 (k : Int)), Is (Value.pointer (some (ap.add k))), Is (Value.int .u8 (x : Int)), Is (Value.slice (some aq) qn qc), Is (Value.int .i64 (k : Int)), Is (Value.pointer (some (aq.add k))), Is (Value.int .u8 (y : Int)), Is (Value.int .u8 (xy : Int)), Is (Value.slice (some ar) rn rc), Is (Value.int .i64 (k : Int)), Is (Value.pointer (some (ar.add k))), Is (Value.int .u8 (z : Int)), Is (Value.int .u8 (xyz : Int)), OneByte (xyz : Int)] rfl ⟨is_stab _ _, is_stab _ _, is_stab _ _, is_stab _ _, is_stab _ _, is_stab _ _, is_stab _ _, is_stab _ _, is_stab _ _, is_stab _ _, is_stab _ _, is_stab _ _, is_stab _ _, is_stab _ _, is_stab _ _, oneByte_stab _, trivial⟩ ⟨?o0, ?o1, ?o2, ?o3, ?o4, ?o5, ?o6, ?o7, ?o8, ?o9, ?o10, ?o11, ?o12, ?o13, ?o14, ?o15, trivial⟩ ?_
      case o0 =>
        intro vals wq hRq hpq
        simp only [List.getD_cons_zero, List.getD_cons_succ, canonP]
        simp only [Oper.gives]
        go_simp
        exact ⟨is_mk _ _, Grow.refl _⟩
      case o1 =>
        intro vals wq hRq hpq
        simp only [List.getD_cons_zero, List.getD_cons_succ, canonP]
        simp only [Oper.gives]
        go_simp
        exact ⟨is_mk _ _, Grow.refl _⟩
      case o2 =>
        intro vals wq hRq hpq
        simp only [List.getD_cons_zero, List.getD_cons_succ, canonP]
        simp only [Oper.gives]
        go_simp
        exact ⟨is_mk _ _, Grow.refl _⟩
      case o3 =>
        intro vals wq hRq hpq
        obtain ⟨f1, f2, _⟩ := hpq
        replace f1 : vals 1 = _ := f1
        replace f2 : vals 2 = _ := f2
        simp only [List.getD_cons_zero, List.getD_cons_succ, canonP, f1, f2]
        clear f1 f2
        simp only [Oper.gives]
        go_simp
        exact ⟨is_mk _ _, Grow.refl _⟩
      case o4 =>
        intro vals wq hRq hpq
        obtain ⟨f3, _⟩ := hpq
        replace f3 : vals 3 = _ := f3
        simp only [List.getD_cons_zero, List.getD_cons_succ, canonP, f3]
        clear f3
        have hcell := Grow.ext hRq _ _ CP.out
        simp only [Oper.gives]
        go_simp
        exact ⟨is_mk _ _, Grow.refl _⟩
      case o5 =>
        intro vals wq hRq hpq
        simp only [List.getD_cons_zero, List.getD_cons_succ, canonP]
        simp only [Oper.gives]
        go_simp
        exact ⟨is_mk _ _, Grow.refl _⟩
      case o6 =>
        intro vals wq hRq hpq
        simp only [List.getD_cons_zero, List.getD_cons_succ, canonP]
        simp only [Oper.gives]
        go_simp
        exact ⟨is_mk _ _, Grow.refl _⟩
      case o7 =>
        intro vals wq hRq hpq
        obtain ⟨f5, f6, _⟩ := hpq
        replace f5 : vals 5 = _ := f5
        replace f6 : vals 6 = _ := f6
        simp only [List.getD_cons_zero, List.getD_cons_succ, canonP, f5, f6]
        clear f5 f6
        simp only [Oper.gives]
        go_simp
        exact ⟨is_mk _ _, Grow.refl _⟩
      case o8 =>
        intro vals wq hRq hpq
        obtain ⟨f7, _⟩ := hpq
        replace f7 : vals 7 = _ := f7
        simp only [List.getD_cons_zero, List.getD_cons_succ, canonP, f7]
        clear f7
        have hcell := Grow.ext hRq _ _ CQ.out
        simp only [Oper.gives]
        go_simp
        exact ⟨is_mk _ _, Grow.refl _⟩
      case o9 =>
        intro vals wq hRq hpq
        obtain ⟨f4, f8, _⟩ := hpq
        replace f4 : vals 4 = _ := f4
        replace f8 : vals 8 = _ := f8
        simp only [List.getD_cons_zero, List.getD_cons_succ, canonP, f4, f8]
        clear f4 f8
        simp only [Oper.gives]
        go_simp
        exact ⟨is_mk _ _, Grow.refl _⟩
      case o10 =>
        intro vals wq hRq hpq
        simp only [List.getD_cons_zero, List.getD_cons_succ, canonP]
        simp only [Oper.gives]
        go_simp
        exact ⟨is_mk _ _, Grow.refl _⟩
      case o11 =>
        intro vals wq hRq hpq
        simp only [List.getD_cons_zero, List.getD_cons_succ, canonP]
        simp only [Oper.gives]
        go_simp
        exact ⟨is_mk _ _, Grow.refl _⟩
      case o12 =>
        intro vals wq hRq hpq
        obtain ⟨f10, f11, _⟩ := hpq
        replace f10 : vals 10 = _ := f10
        replace f11 : vals 11 = _ := f11
        simp only [List.getD_cons_zero, List.getD_cons_succ, canonP, f10, f11]
        clear f10 f11
        simp only [Oper.gives]
        go_simp
        exact ⟨is_mk _ _, Grow.refl _⟩
      case o13 =>
        intro vals wq hRq hpq
        obtain ⟨f12, _⟩ := hpq
        replace f12 : vals 12 = _ := f12
        simp only [List.getD_cons_zero, List.getD_cons_succ, canonP, f12]
        clear f12
        have hcell := Grow.ext hRq _ _ CR.out
        simp only [Oper.gives]
        go_simp
        exact ⟨is_mk _ _, Grow.refl _⟩
      case o14 =>
        intro vals wq hRq hpq
        obtain ⟨f9, f13, _⟩ := hpq
        replace f9 : vals 9 = _ := f9
        replace f13 : vals 13 = _ := f13
        simp only [List.getD_cons_zero, List.getD_cons_succ, canonP, f9, f13]
        clear f9 f13
        simp only [Oper.gives]
        go_simp
        exact ⟨is_mk _ _, Grow.refl _⟩
      case o15 =>
        intro vals wq hRq hpq
        obtain ⟨f14, _⟩ := hpq
        replace f14 : vals 14 = _ := f14
        simp only [List.getD_cons_zero, List.getD_cons_succ, canonP, f14]
        clear f14
        simp only [Oper.gives]
        go_simp
        exact ⟨⟨_, rfl, by rw [cell_new]; rfl⟩, Grow.alloc _ _⟩
      intro vals wz hRwz hfwz
      obtain ⟨g0, g1, g2, g3, g4, g5, g6, g7, g8, g9, g10, g11, g12, g13, g14, g15, -⟩ := hfwz
      replace g0 : vals 0 = _ := g0
      replace g1 : vals 1 = _ := g1
      replace g2 : vals 2 = _ := g2
      replace g3 : vals 3 = _ := g3
      replace g4 : vals 4 = _ := g4
      replace g5 : vals 5 = _ := g5
      replace g6 : vals 6 = _ := g6
      replace g7 : vals 7 = _ := g7
      replace g8 : vals 8 = _ := g8
      replace g9 : vals 9 = _ := g9
      replace g10 : vals 10 = _ := g10
      replace g11 : vals 11 = _ := g11
      replace g12 : vals 12 = _ := g12
      replace g13 : vals 13 = _ := g13
      replace g14 : vals 14 = _ := g14
      simp only [List.drop_succ_cons, List.drop_zero]
      simp only [canonP, Act.put, List.setIfInBounds_toArray, List.set_cons_succ, List.set_cons_zero, g0, g1, g2, g3, g4, g5, g6, g7, g8, g9, g10, g11, g12, g13, g14]
      clear g0 g1 g2 g3 g4 g5 g6 g7 g8 g9 g10 g11 g12 g13 g14
      obtain ⟨b, hv15, hc15⟩ := g15
      replace hv15 : vals 15 = _ := hv15
      rw [hv15]
      have HC15 := Lib.hid hc15
      have HRZ := Lib.hid hRwz
      clear hc15 hRwz hv15
      have ow : wz.ownsRow w1.heap.size 5 1 u8 k ((mix ps qs rs k).map fun x => Value.int .u8 ((x : Nat) : Int)) := own_grow (w := wr.drew) HO.out HRZ.out
      have bz : Below w1.heap.size w1 wz := HBW.out.trans (Below.mono (show Below wr.heap.size wr wz from Grow.trans _ _ _ (show Grow wr wr.drew from (Below.refl _ _).drew) HRZ.out) HBW.out.size)
      have OW := Lib.hid ow
      have BZ := Lib.hid bz
      clear ow bz
      refine wpList_append_own _ rfl _ _ 24 rfl w1.heap.size 5 i0 (.int .u8 0) 1 1 Tryd.underlying24 HI.out HZ0.out HZ1.out HZ2.out rfl (by decide) _ _ _ rfl OW.out ⟨b, 0, none⟩ 1 1 [.int .u8 (xyz : Int)] rfl rfl ?c1 ?c2 ?c3 ?c4 ?c5 ?_
      case c1 =>
        intro j u hu
        cases j with
        | zero => rw [add_zero_off]; simp at hu; rw [← hu]; exact HC15.out
        | succ j => simp at hu
      case c2 => intro u hu; simp at hu; rw [hu]; rfl
      case c3 => unfold maxLen; omega
      case c4 => omega
      case c5 => exact BZ.out.size
      intro v' w2 hown' hgrow _
      have OW2 := Lib.hid hown'
      have BZ2 := Lib.hid (BZ.out.grown hgrow BZ.out.size (fun g hg => (OW.out.lt g hg).1))
      clear hown' hgrow
      go_wp2_with fail
      go_roundw
      case rel =>
        refine ⟨k + 1, by omega, by go_num, ?_, BZ2.out⟩
        have := OW2.out
        rw [HM.out, List.map_append]
        simpa using this
      case measure => simp only [intOf]; omega
    · obtain rfl : k = n := by omega
      obtain ⟨lp, sp, _⟩ := HP.out
      obtain ⟨lq, sq, _⟩ := HQ.out
      obtain ⟨lr, sr, _⟩ := HR.out
      dsimp only at lp lq lr sp sq sr
      obtain ⟨vA, vc, hv8, hby⟩ := own_bytes HO.out (CrcPlain.mix_small ps qs rs sp sq sr k)
      have hsum := CrcPlain.sum_mix ps qs rs sp sq sr k (by omega) (by omega) (by omega)
      have hx1 := b_xor (CrcPlain.sum (ps.take k)) (CrcPlain.sum (qs.take k))
      have hx2 := b_xor (CrcPlain.sum (ps.take k) ^^^ CrcPlain.sum (qs.take k)) (CrcPlain.sum (rs.take k))
      rw [← hsum] at hx2
      rw [hv8]
      have MB := Lib.hid (show (⟨vA, k, vc, mix ps qs rs k⟩ : Piece).ok wr from hby)
      have PB := Lib.hid (show (⟨pA, k, pc, ps.take k⟩ : Piece).ok wr from (HP.out.ext E0.out).head hnp)
      have QB := Lib.hid (show (⟨qA, k, qc, qs.take k⟩ : Piece).ok wr from (HQ.out.ext E0.out).head hnq)
      have RB := Lib.hid (show (⟨rA, k, rc, rs.take k⟩ : Piece).ok wr from (HR.out.ext E0.out).head hnr)
      have TB := Lib.hid (HT.out.ext E0.out)
      clear lp lq lr sp sq sr hsum hby hv8
      generalize CrcPlain.sum (ps.take k) ^^^ CrcPlain.sum (qs.take k) = sxy at *
      have hs1 := fun w => cut_head under24 size24 pA pn pc k (by omega) w
      have hs2 := fun w => cut_head under24 size24 qA qn qc k (by omega) w
      have hs3 := fun w => cut_head under24 size24 rA rn rc k (by omega) w
      go_wp2_with fail
      refine wp_region_facts (by kernel_rfl) [[], [(0, some 43)], [(1, some 44)], [], [], [(3, some 46), (4, some 47)], [(5, some 48)], [(2, some 45), (6, some 49)], [], [], [(8, some 51), (9, some 52)], [(10, some 53)], [(7, some 50), (11, some 54)], [(7, some 50), (12, some 55)], [], [], [(14, some 57), (15, some 58)], [(16, some 59)], [(12, some 55), (17, some 60)], [(13, some 56), (18, some 61)], [(2, some 45), (19, some 62)], [(0, some 43), (1, some 44), (2, some 45), (3, some 46), (4, some 47), (5, some 48), (6, some 49), (7, some 50), (8, some 51), (9, some 52), (10, some 53), (11, some 54), (12, some 55), (13, some 56), (14, some 57), (15, some 58), (16, some 59), (17, some 60), (18, some 61), (19, some 62), (20, some 63)]] [(0, some 43), (1, some 44), (2, some 45), (3, some 46), (4, some 47), (5, some 48), (6, some 49), (7, some 50), (8, some 51), (9, some 52), (10, some 53), (11, some 54), (12, some 55), (13, some 56), (14, some 57), (15, some 58), (16, some 59), (17, some 60), (18, some 61), (19, some 62), (20, some 63), (21, some 6)] (by kernel_rfl) (by kernel_rfl) (by kernel_rfl) (Grow) Grow.refl Grow.trans [Is (Value.slice vA k vc), Row [⟨vA, k, vc, mix ps qs rs k⟩], Is (Value.int .u32 ((CrcPlain.sum (mix ps qs rs k)).toNat : Int)), Is (Value.slice pA pn pc), Is (Value.int .i64 (k : Int)), Is (Value.slice pA k pc), Row [⟨pA, k, pc, ps.take k⟩], Is (Value.int .u32 ((CrcPlain.sum (ps.take k)).toNat : Int)), Is (Value.slice qA qn qc), Is (Value.int .i64 (k : Int)), Is (Value.slice qA k qc), Row [⟨qA, k, qc, qs.take k⟩], Is (Value.int .u32 ((CrcPlain.sum (qs.take k)).toNat : Int)), Is (Value.int .u32 (sxy.toNat : Int)), Is (Value.slice rA rn rc), Is (Value.int .i64 (k : Int)), Is (Value.slice rA k rc), Row [⟨rA, k, rc, rs.take k⟩], Is (Value.int .u32 ((CrcPlain.sum (rs.take k)).toNat : Int)), Is (Value.int .u32 ((CrcPlain.sum (mix ps qs rs k)).toNat : Int)), Is (Value.bool true), Is (Value.bool true)] rfl ⟨is_stab _ _, row_stab _, is_stab _ _, is_stab _ _, is_stab _ _, is_stab _ _, row_stab _, is_stab _ _, is_stab _ _, is_stab _ _, is_stab _ _, row_stab _, is_stab _ _, is_stab _ _, is_stab _ _, is_stab _ _, is_stab _ _, row_stab _, is_stab _ _, is_stab _ _, is_stab _ _, is_stab _ _, trivial⟩ ⟨?o0, ?o1, ?o2, ?o3, ?o4, ?o5, ?o6, ?o7, ?o8, ?o9, ?o10, ?o11, ?o12, ?o13, ?o14, ?o15, ?o16, ?o17, ?o18, ?o19, ?o20, ?o21, trivial⟩ ?_
      case o0 =>
        intro vals wq hRq hpq
        simp only [List.getD_cons_zero, List.getD_cons_succ, canonP]
        simp only [Oper.gives]
        go_simp
        exact ⟨is_mk _ _, Grow.refl _⟩
      case o1 =>
        intro vals wq hRq hpq
        obtain ⟨f0, _⟩ := hpq
        replace f0 : vals 0 = _ := f0
        simp only [List.getD_cons_zero, List.getD_cons_succ, canonP, f0]
        clear f0
        simp only [Oper.gives]
        go_simp
        exact ⟨row_new wq [⟨vA, k, vc, mix ps qs rs k⟩] (by intro p hp; obtain rfl := List.mem_singleton.1 hp; exact MB.out.ext (Grow.ext hRq)), Grow.alloc _ _⟩
      case o2 =>
        intro vals wq hRq hpq
        obtain ⟨f1, _⟩ := hpq
        simp only [List.getD_cons_zero, List.getD_cons_succ, canonP]
        simp only [Oper.gives]
        go_simp
        exact sum_gives [⟨vA, k, vc, mix ps qs rs k⟩] _ _ _ (TB.out.ext (Grow.ext hRq)) f1 (by simp) (by simp; omega) (by rw [all_one])
      case o3 =>
        intro vals wq hRq hpq
        simp only [List.getD_cons_zero, List.getD_cons_succ, canonP]
        simp only [Oper.gives]
        go_simp
        exact ⟨is_mk _ _, Grow.refl _⟩
      case o4 =>
        intro vals wq hRq hpq
        simp only [List.getD_cons_zero, List.getD_cons_succ, canonP]
        simp only [Oper.gives]
        go_simp
        exact ⟨is_mk _ _, Grow.refl _⟩
      case o5 =>
        intro vals wq hRq hpq
        obtain ⟨f3, f4, _⟩ := hpq
        replace f3 : vals 3 = _ := f3
        replace f4 : vals 4 = _ := f4
        simp only [List.getD_cons_zero, List.getD_cons_succ, canonP, f3, f4]
        clear f3 f4
        simp only [Oper.gives]
        go_simp
        exact ⟨is_mk _ _, Grow.refl _⟩
      case o6 =>
        intro vals wq hRq hpq
        obtain ⟨f5, _⟩ := hpq
        replace f5 : vals 5 = _ := f5
        simp only [List.getD_cons_zero, List.getD_cons_succ, canonP, f5]
        clear f5
        simp only [Oper.gives]
        go_simp
        exact ⟨row_new wq [⟨pA, k, pc, ps.take k⟩] (by intro p hp; obtain rfl := List.mem_singleton.1 hp; exact PB.out.ext (Grow.ext hRq)), Grow.alloc _ _⟩
      case o7 =>
        intro vals wq hRq hpq
        obtain ⟨f2, f6, _⟩ := hpq
        replace f2 : vals 2 = _ := f2
        simp only [List.getD_cons_zero, List.getD_cons_succ, canonP, f2]
        clear f2
        simp only [Oper.gives]
        go_simp
        exact sum_gives [⟨pA, k, pc, ps.take k⟩] _ _ _ (TB.out.ext (Grow.ext hRq)) f6 (by simp) (by simp; omega) (by rw [all_one])
      case o8 =>
        intro vals wq hRq hpq
        simp only [List.getD_cons_zero, List.getD_cons_succ, canonP]
        simp only [Oper.gives]
        go_simp
        exact ⟨is_mk _ _, Grow.refl _⟩
      case o9 =>
        intro vals wq hRq hpq
        simp only [List.getD_cons_zero, List.getD_cons_succ, canonP]
        simp only [Oper.gives]
        go_simp
        exact ⟨is_mk _ _, Grow.refl _⟩
      case o10 =>
        intro vals wq hRq hpq
        obtain ⟨f8, f9, _⟩ := hpq
        replace f8 : vals 8 = _ := f8
        replace f9 : vals 9 = _ := f9
        simp only [List.getD_cons_zero, List.getD_cons_succ, canonP, f8, f9]
        clear f8 f9
        simp only [Oper.gives]
        go_simp
        exact ⟨is_mk _ _, Grow.refl _⟩
      case o11 =>
        intro vals wq hRq hpq
        obtain ⟨f10, _⟩ := hpq
        replace f10 : vals 10 = _ := f10
        simp only [List.getD_cons_zero, List.getD_cons_succ, canonP, f10]
        clear f10
        simp only [Oper.gives]
        go_simp
        exact ⟨row_new wq [⟨qA, k, qc, qs.take k⟩] (by intro p hp; obtain rfl := List.mem_singleton.1 hp; exact QB.out.ext (Grow.ext hRq)), Grow.alloc _ _⟩
      case o12 =>
        intro vals wq hRq hpq
        obtain ⟨f7, f11, _⟩ := hpq
        replace f7 : vals 7 = _ := f7
        simp only [List.getD_cons_zero, List.getD_cons_succ, canonP, f7]
        clear f7
        simp only [Oper.gives]
        go_simp
        exact sum_gives [⟨qA, k, qc, qs.take k⟩] _ _ _ (TB.out.ext (Grow.ext hRq)) f11 (by simp) (by simp; omega) (by rw [all_one])
      case o13 =>
        intro vals wq hRq hpq
        obtain ⟨f7, f12, _⟩ := hpq
        replace f7 : vals 7 = _ := f7
        replace f12 : vals 12 = _ := f12
        simp only [List.getD_cons_zero, List.getD_cons_succ, canonP, f7, f12]
        clear f7 f12
        simp only [Oper.gives]
        go_simp
        exact ⟨is_mk _ _, Grow.refl _⟩
      case o14 =>
        intro vals wq hRq hpq
        simp only [List.getD_cons_zero, List.getD_cons_succ, canonP]
        simp only [Oper.gives]
        go_simp
        exact ⟨is_mk _ _, Grow.refl _⟩
      case o15 =>
        intro vals wq hRq hpq
        simp only [List.getD_cons_zero, List.getD_cons_succ, canonP]
        simp only [Oper.gives]
        go_simp
        exact ⟨is_mk _ _, Grow.refl _⟩
      case o16 =>
        intro vals wq hRq hpq
        obtain ⟨f14, f15, _⟩ := hpq
        replace f14 : vals 14 = _ := f14
        replace f15 : vals 15 = _ := f15
        simp only [List.getD_cons_zero, List.getD_cons_succ, canonP, f14, f15]
        clear f14 f15
        simp only [Oper.gives]
        go_simp
        exact ⟨is_mk _ _, Grow.refl _⟩
      case o17 =>
        intro vals wq hRq hpq
        obtain ⟨f16, _⟩ := hpq
        replace f16 : vals 16 = _ := f16
        simp only [List.getD_cons_zero, List.getD_cons_succ, canonP, f16]
        clear f16
        simp only [Oper.gives]
        go_simp
        exact ⟨row_new wq [⟨rA, k, rc, rs.take k⟩] (by intro p hp; obtain rfl := List.mem_singleton.1 hp; exact RB.out.ext (Grow.ext hRq)), Grow.alloc _ _⟩
      case o18 =>
        intro vals wq hRq hpq
        obtain ⟨f12, f17, _⟩ := hpq
        replace f12 : vals 12 = _ := f12
        simp only [List.getD_cons_zero, List.getD_cons_succ, canonP, f12]
        clear f12
        simp only [Oper.gives]
        go_simp
        exact sum_gives [⟨rA, k, rc, rs.take k⟩] _ _ _ (TB.out.ext (Grow.ext hRq)) f17 (by simp) (by simp; omega) (by rw [all_one])
      case o19 =>
        intro vals wq hRq hpq
        obtain ⟨f13, f18, _⟩ := hpq
        replace f13 : vals 13 = _ := f13
        replace f18 : vals 18 = _ := f18
        simp only [List.getD_cons_zero, List.getD_cons_succ, canonP, f13, f18]
        clear f13 f18
        simp only [Oper.gives]
        go_simp
        exact ⟨is_mk _ _, Grow.refl _⟩
      case o20 =>
        intro vals wq hRq hpq
        obtain ⟨f2, f19, _⟩ := hpq
        replace f2 : vals 2 = _ := f2
        replace f19 : vals 19 = _ := f19
        simp only [List.getD_cons_zero, List.getD_cons_succ, canonP, f2, f19]
        clear f2 f19
        simp only [Oper.gives]
        go_simp
        exact ⟨is_mk _ _, Grow.refl _⟩
      case o21 =>
        intro vals wq hRq hpq
        obtain ⟨f0, f1, f2, f3, f4, f5, f6, f7, f8, f9, f10, f11, f12, f13, f14, f15, f16, f17, f18, f19, f20, _⟩ := hpq
        replace f0 : vals 0 = _ := f0
        replace f2 : vals 2 = _ := f2
        replace f3 : vals 3 = _ := f3
        replace f4 : vals 4 = _ := f4
        replace f5 : vals 5 = _ := f5
        replace f7 : vals 7 = _ := f7
        replace f8 : vals 8 = _ := f8
        replace f9 : vals 9 = _ := f9
        replace f10 : vals 10 = _ := f10
        replace f12 : vals 12 = _ := f12
        replace f13 : vals 13 = _ := f13
        replace f14 : vals 14 = _ := f14
        replace f15 : vals 15 = _ := f15
        replace f16 : vals 16 = _ := f16
        replace f18 : vals 18 = _ := f18
        replace f19 : vals 19 = _ := f19
        replace f20 : vals 20 = _ := f20
        simp only [List.getD_cons_zero, List.getD_cons_succ, canonP, f0, f2, f3, f4, f5, f7, f8, f9, f10, f12, f13, f14, f15, f16, f18, f19, f20]
        clear f0 f2 f3 f4 f5 f7 f8 f9 f10 f12 f13 f14 f15 f16 f18 f19 f20
        simp only [Oper.gives]
        go_simp
        exact ⟨is_mk _ _, Grow.refl _⟩
      intro vals wz hRwz hfwz
      obtain ⟨g0, g1, g2, g3, g4, g5, g6, g7, g8, g9, g10, g11, g12, g13, g14, g15, g16, g17, g18, g19, g20, g21, -⟩ := hfwz
      replace g0 : vals 0 = _ := g0
      replace g2 : vals 2 = _ := g2
      replace g3 : vals 3 = _ := g3
      replace g4 : vals 4 = _ := g4
      replace g5 : vals 5 = _ := g5
      replace g7 : vals 7 = _ := g7
      replace g8 : vals 8 = _ := g8
      replace g9 : vals 9 = _ := g9
      replace g10 : vals 10 = _ := g10
      replace g12 : vals 12 = _ := g12
      replace g13 : vals 13 = _ := g13
      replace g14 : vals 14 = _ := g14
      replace g15 : vals 15 = _ := g15
      replace g16 : vals 16 = _ := g16
      replace g18 : vals 18 = _ := g18
      replace g19 : vals 19 = _ := g19
      replace g20 : vals 20 = _ := g20
      replace g21 : vals 21 = _ := g21
      simp only [canonP, Act.put, List.setIfInBounds_toArray, List.set_cons_succ, List.set_cons_zero, g0, g2, g3, g4, g5, g7, g8, g9, g10, g12, g13, g14, g15, g16, g18, g19, g20, g21]
      clear g0 g1 g2 g3 g4 g5 g6 g7 g8 g9 g10 g11 g12 g13 g14 g15 g16 g17 g18 g19 g20 g21
      go_wp2_with fail
      go_ret
      exact ⟨rfl, HB.out.trans (Below.mono (HBW.out.trans (Below.mono (show Below wr.heap.size wr wz from Grow.trans _ _ _ (show Grow wr wr.drew from (Below.refl _ _).drew) hRwz) HBW.out.size)) HB.out.size)⟩

set_option maxHeartbeats 1000000 in
theorem mixed_out (p q r : Piece) (n : Nat) (w : World) (ht : Tab w) (np : p.n ≤ 140737488351232) (nq : q.n ≤ 140737488351232) (nr : r.n ≤ 140737488351232)
    (hn : n = min (min p.n q.n) r.n) (hle : 20000 < n) :
    Calls Tryd.prog 7 #[.slice p.A p.n p.c, .slice q.A q.n q.c, .slice r.A r.n r.c] w fun e w' => e = .returned (.bool true) ∧ Below w.heap.size w w' := by
  have HT := Lib.hid ht
  clear ht
  obtain ⟨pA, pn, pc, ps⟩ := p
  obtain ⟨qA, qn, qc, qs⟩ := q
  obtain ⟨rA, rn, rc, rs⟩ := r
  dsimp only at np nq nr hn ⊢
  have hmin : ∀ (ts : Array TypeId) (t : TypeId) (w : World), (Builtin.min_ ts t #[.int .i64 (pn : Int), .int .i64 (qn : Int), .int .i64 (rn : Int)]).run Tryd.prog w = .ok (.int .i64 (n : Int)) w := by
    intro ts t w
    rw [run_min_int3]
    congr 2
    split <;> split at * <;> omega
  clear hn
  go_enter Tryd.func7, Tryd.ntmps7
  go_wp2_with fail
  refine (awake_any _ HT.out).mono ?_
  rintro e w1 ⟨rfl, hb⟩
  have HB := Lib.hid hb
  clear hb
  go_wp2_with fail
  go_ret
  exact ⟨rfl, HB.out⟩
theorem mixed_all (p q r : Piece) (w : World) (ht : Tab w) (hp : p.ok w) (hq : q.ok w) (hr : r.ok w) (cp : p.n ≤ p.c) (cq : q.n ≤ q.c) (cr : r.n ≤ r.c) (np : p.n ≤ 140737488351232) (nq : q.n ≤ 140737488351232) (nr : r.n ≤ 140737488351232) :
    Calls Tryd.prog 7 #[.slice p.A p.n p.c, .slice q.A q.n q.c, .slice r.A r.n r.c] w fun e w' => e = .returned (.bool true) ∧ Below w.heap.size w w' := by
  by_cases h : 20000 < min (min p.n q.n) r.n
  · exact mixed_out p q r _ w ht np nq nr rfl h
  · exact mixed_walk p q r _ w ht hp hq hr cp cq cr np nq nr rfl (by omega)
end Go.Proofs.YtcodhmfmdjopeaaDoor
