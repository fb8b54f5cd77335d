/- What the document's Inode computes: the walk. -/
import Derived.Test.YtgakdaohhbdjoaaG7
import Derived.Test.YtgakdaohhbdjoaaRegion
set_option linter.unusedVariables false
set_option linter.unusedSimpArgs false
namespace Go.Proofs.Ytgakdaohhbdjoaa
open Go.RowKit

theorem rall_no (gr sz ni jr : Int) (h : ¬ May gr sz ni jr) (w : World) :
    Calls Try.prog 29 #[gv gr sz ni jr] w fun e w' => e = .returned (.slice none 0 0) ∧ Grow w w' := by
  have HM := Lib.hid h
  clear h
  go_enter Try.func29, Try.ntmps29
  go_wp2_with fail
  refine (rmay_no gr sz ni jr HM.out _).mono ?_
  rintro e w1 ⟨rfl, hg⟩
  have HG := Lib.hid hg
  clear hg
  go_wp2_with fail
  go_ret
  exact ⟨rfl, (Grow.alloc _ _).trans HG.out⟩
/-- a row of things that is not empty, and its cells -/
theorem Things.open_ {w : World} {base : Nat} {v : Value} {l : List Th} (h : Things w base v l) (hl : 0 < l.length) : ∃ g cap, v = .slice (some ⟨g, 0, none⟩) l.length cap ∧ base ≤ g ∧ g < w.heap.size ∧
    ∀ k t, l[k]? = some t → w.cell? ⟨g, k * 4, none⟩ = some (.int .u8 (t.kind : Int)) ∧ w.cell? ⟨g, k * 4 + 1, none⟩ = some (.int .i64 (t.group : Int)) ∧ w.cell? ⟨g, k * 4 + 2, none⟩ = some (.int .i64 (t.pos : Int)) ∧ w.cell? ⟨g, k * 4 + 3, none⟩ = some (.int .i64 (t.ino : Int)) := by
  rcases h.2 with ⟨_, h0⟩ | ⟨g, cap, cur, hv, hb, hh, hc, _, hs, ht⟩
  · omega
  · refine ⟨g, cap, hv, hb, ?_, fun k t hk => ?_⟩
    · rcases Nat.lt_or_ge g w.heap.size with h1 | h1
      · exact h1
      · rw [Array.getElem?_eq_none h1] at hh; cases hh
    · have hkl : k < l.length := by
        rcases Nat.lt_or_ge k l.length with h1 | h1
        · exact h1
        · rw [List.getElem?_eq_none h1] at hk; cases hk
      have hget : ∀ j, j < 4 → w.cell? ⟨g, k * 4 + j, none⟩ = t.cells[j]? := by
        intro j hj
        simp only [World.cell?, hh]
        show cur[k * 4 + j]? = _
        have h1 : (cur.toList.take (l.length * 4))[k * 4 + j]? = cur[k * 4 + j]? := by rw [List.getElem?_take_of_lt (by omega)]; simp
        rw [← h1, ht]
        have : ∀ (l : List Th) (k : Nat) (t : Th), l[k]? = some t → (cellsOf l)[k * 4 + j]? = t.cells[j]? := by
          intro l
          induction l with
          | nil => intro k t h; simp at h
          | cons x l ih =>
            intro k t hk
            simp only [cellsOf, List.flatMap_cons]
            cases k with
            | zero =>
              have : x = t := by simpa using hk
              subst this
              rw [List.getElem?_append_left (by simp [Th.cells]; omega)]
              simp
            | succ k =>
              rw [List.getElem?_append_right (by simp [Th.cells]; omega)]
              have e : (k + 1) * 4 + j - x.cells.length = k * 4 + j := by simp [Th.cells]; omega
              rw [e]
              exact ih k t (by simpa using hk)
        exact this l k t hk
      exact ⟨hget 0 (by omega), hget 1 (by omega), hget 2 (by omega), hget 3 (by omega)⟩

/-- the answer of Inode -/
def inodeOf (gr sz ni jr ino : Int) : Value :=
  if 1 ≤ ino ∧ ino ≤ nInodes gr sz ni jr then .tuple #[.int .i64 (2 + jr + (ino - 1) / ni * sz + 2 + (ino - 1) % ni / 4), .int .i64 ((ino - 1) % ni % 4 * 64), .bool true] else .tuple #[.int .i64 0, .int .i64 0, .bool false]

theorem what_ino (gr sz ni jr k : Nat) (hs : 0 < sz) (hs2 : sz ≤ 512) (hg4 : gr ≤ 4) (h4 : ni % 4 = 0) (hn : ni ≤ 64) (hk : k < 2 + jr + gr * sz) : (whatT sz ni jr k).ino ≤ 100000 ∧ ((whatT sz ni jr k).kind = 6 → 1 ≤ (whatT sz ni jr k).ino ∧ ((whatT sz ni jr k).ino - 1) % 4 = 0) := by
  unfold whatT
  by_cases a1 : k < 2
  · rw [if_pos a1]; exact ⟨by simp, fun h => by simp at h; omega⟩
  rw [if_neg a1]
  by_cases a2 : k < 2 + jr
  · rw [if_pos a2]; exact ⟨by simp, fun h => by simp at h⟩
  rw [if_neg a2]
  have hx : k - 2 - jr < gr * sz := by omega
  generalize k - 2 - jr = x at *
  have hg : x / sz < gr := Nat.div_lt_of_lt_mul (by rw [Nat.mul_comm]; exact hx)
  have hy : x % sz < sz := Nat.mod_lt _ hs
  generalize x / sz = g at *
  generalize x % sz = y at *
  by_cases a3 : y < 2
  · rw [if_pos a3]; exact ⟨by simp, fun h => by simp at h; omega⟩
  rw [if_neg a3]
  by_cases a4 : y < 2 + ni / 4
  · rw [if_pos a4]
    dsimp only
    have hgn : g * ni ≤ 4 * 64 := Nat.mul_le_mul (by omega) hn
    have hmod : g * ni % 4 = 0 := by rw [Nat.mul_mod, h4]; simp
    exact ⟨by omega, fun _ => ⟨by omega, by omega⟩⟩
  · rw [if_neg a4]; exact ⟨by simp, fun h => by simp at h⟩
theorem mod_of (ino ni : Int) (ti : Nat) (h4 : ni % 4 = 0) (h1 : (ti : Int) ≤ ino) (h2 : ino < (ti : Int) + 4) (h3 : 1 ≤ ti) (h5 : (ti - 1) % 4 = 0) (hn : 0 < ni) : (ino - 1) % ni % 4 * 64 = 64 * (ino - ti) := by
  have e : (ino - 1) % ni % 4 = (ino - 1) % 4 := Int.emod_emod_of_dvd _ (by omega)
  rw [e]
  omega

set_option maxRecDepth 100000 in
set_option maxHeartbeats 4000000 in
theorem rinode_may (gr sz ni jr : Nat) (ino : Int) (hino : I64 ino) (h : May gr sz ni jr) (w : World) :
    Calls Try.prog 11 #[gv gr sz ni jr, .int .i64 ino] w fun e w' => e = .returned (inodeOf gr sz ni jr ino) ∧ Grow w w' := by
  obtain ⟨i1, i2⟩ := hino
  have HM := Lib.hid h
  have HNN := Lib.hid (show nInodes gr sz ni jr = (gr : Int) * ni from if_pos h)
  obtain ⟨g1, g2, g3, g4, g5, g6, g7, g8, g9, g10, g11⟩ := h
  have hsz : 2 + ni / 4 ≤ sz := by omega
  have h4 : ni % 4 = 0 := by omega
  have HIFF := Lib.hid (fun k hk => hasIno_iff gr sz ni jr k ino hsz h4 (by omega) hk)
  have HWI := Lib.hid (fun k hk => what_ino gr sz ni jr k (by omega) (by omega) (by omega) h4 (by omega) hk)
  have HMO := Lib.hid (show (ni : Int) % 4 = 0 by omega)
  have hN2 : 2 ≤ 2 + jr + gr * sz := by omega
  have HGET := Lib.hid (fun k hk => allT_get gr sz ni jr k hsz hk)
  have hlen := allT_length gr sz ni jr hsz
  have hN : 2 + jr + gr * sz ≤ 2048 := by
    have : ((gr * sz : Nat) : Int) = (gr : Int) * sz := by simp
    omega
  generalize hNN : 2 + jr + gr * sz = N at *
  have HNI := Lib.hid (show (N : Int) = 2 + jr + (gr : Int) * sz by rw [← hNN]; simp)
  clear hNN g7 h4
  have HL := Lib.hid hlen
  clear hlen
  go_enter Try.func11, Try.ntmps11
  go_wp2_with fail
  refine (rall_yes gr sz ni jr HM.out _).mono ?_
  rintro e w1 ⟨⟨v, rfl, hth⟩, hg⟩
  obtain ⟨g, cap, hv, _, hgl, hcl⟩ := hth.open_ (by rw [HL.out]; omega)
  rw [HL.out] at hv
  rw [hv]
  have HCL := Lib.hid hcl
  have HG := Lib.hid ((Grow.alloc _ _).trans hg)
  clear hcl hg hth hv
  go_wp2_with fail
  go_loop [8] (fun ti => ∃ k : Nat, k ≤ N ∧ ti = .int .i64 (k : Int) ∧ ∀ j, j < k → ¬ hasIno ino (whatT sz ni jr j)) (fun ti => N - (intOf ti).toNat)
  case atStart => exact ⟨0, by omega, rfl, by omega⟩
  case round =>
    obtain ⟨k, hk, rfl, hno⟩ := hrel
    have HNO := Lib.hid hno
    clear hno
    by_cases hlt : k < N
    · obtain ⟨c0, _, _, c3⟩ := HCL.out k _ (HGET.out k hlt)
      have hif := HIFF.out k hlt
      have HNX := Lib.hid (show ¬ hasIno ino (whatT sz ni jr k) → ∀ j, j < k + 1 → ¬ hasIno ino (whatT sz ni jr j) from fun hn j hj => by
        rcases Nat.lt_or_ge j k with h1 | h1
        · exact HNO.out j h1
        · have : j = k := by omega
          rw [this]; exact hn)
      have htb := (HWI.out k hlt).1
      have HTM := Lib.hid (HWI.out k hlt).2
      have HIF := Lib.hid hif
      have hdef : hasIno ino (whatT sz ni jr k) ↔ (whatT sz ni jr k).kind = 6 ∧ ((whatT sz ni jr k).ino : Int) ≤ ino ∧ ino < ((whatT sz ni jr k).ino : Int) + 4 := Iff.rfl
      generalize whatT sz ni jr k = t at *
      have HDEF := Lib.hid hdef
      clear hif hdef
      obtain ⟨tk, tg, tp, ti⟩ := t
      dsimp only at c0 c3 htb HDEF HTM
      by_cases h6 : tk = 6
      · have e6 : ((tk : Int) == 6) = true := by rw [h6]; rfl
        by_cases hge : (ti : Int) ≤ ino
        · by_cases hl4 : ino < (ti : Int) + 4
          · have hyes : hasIno ino ⟨tk, tg, tp, ti⟩ := HDEF.out.2 ⟨h6, hge, hl4⟩
            have hans := HIF.out.1 hyes
            have htm := HTM.out h6
            have HF := Lib.hid (show inodeOf gr sz ni jr ino = .tuple #[.int .i64 (k : Int), .int .i64 (64 * (ino - ti)), .bool true] by
              unfold inodeOf
              rw [HNN.out, if_pos ⟨hans.1, hans.2.1⟩, ← hans.2.2, mod_of ino ni ti HMO.out hge hl4 htm.1 htm.2 (by omega)])
            have e1 : IntKind.i64.wrap (ino - (ti : Int)) = ino - ti := by rw [IntKind.wrap_i64]; omega
            have e2 : IntKind.i64.wrap (64 * (ino - (ti : Int))) = 64 * (ino - ti) := by rw [IntKind.wrap_i64]; omega
            have E1 := Lib.hid e1
            have E2 := Lib.hid e2
            clear h6 hyes hans htm e1 e2
            go_wp2_with fail
            have e1 := E1.out
            have e2 := E2.out
            refine wp_region_facts (by kernel_rfl) [[], [], [], [], [(2, some 44), (3, some 45)], [(4, some 46)], [(5, some 47)], [(1, some 43), (6, some 48)], [(7, some 49)], [(0, some 42)], [(0, some 42), (1, some 43), (2, some 44), (3, some 45), (4, some 46), (5, some 47), (6, some 48), (7, some 49), (8, some 50), (9, some 4)], [(0, some 42), (1, some 43), (2, some 44), (3, some 45), (4, some 46), (5, some 47), (6, some 48), (7, some 49), (8, some 50), (9, some 4), (10, some 5)]] [(0, some 42), (1, some 43), (2, some 44), (3, some 45), (4, some 46), (5, some 47), (6, some 48), (7, some 49), (8, some 50), (9, some 4), (10, some 5), (11, some 6)] (by kernel_rfl) (by kernel_rfl) (by kernel_rfl) (Grow) Grow.refl (fun _ _ _ h h' => Grow.trans h h') [Is (Value.int .i64 (k : Int)), Is (Value.int .i64 ino), Is (Value.slice (some ⟨g, 0, none⟩) N cap), Is (Value.int .i64 (k : Int)), Is (Value.pointer (some ⟨g, k * 4, none⟩)), Is (Value.pointer (some ⟨g, k * 4 + 3, none⟩)), Is (Value.int .i64 (ti : Int)), Is (Value.int .i64 (ino - ti)), Is (Value.int .i64 (64 * (ino - ti))), Is (Value.int .i64 (k : Int)), Is (Value.int .i64 (64 * (ino - ti))), Is (Value.bool true)] rfl ⟨is_stab _ _, is_stab _ _, is_stab _ _, is_stab _ _, is_stab _ _, is_stab _ _, is_stab _ _, is_stab _ _, is_stab _ _, is_stab _ _, is_stab _ _, is_stab _ _, trivial⟩ ⟨?o0, ?o1, ?o2, ?o3, ?o4, ?o5, ?o6, ?o7, ?o8, ?o9, ?o10, ?o11, trivial⟩ ?_
            case o0 =>
              intro vals wq hRq hpq
              simp only [List.getD_cons_zero, List.getD_cons_succ, canonP]
              simp only [Oper.gives]
              go_simp
              exact ⟨is_mk _ _, Grow.refl _⟩
            case o1 =>
              intro vals wq hRq hpq
              simp only [List.getD_cons_zero, List.getD_cons_succ, canonP]
              simp only [Oper.gives]
              go_simp
              exact ⟨is_mk _ _, Grow.refl _⟩
            case o2 =>
              intro vals wq hRq hpq
              simp only [List.getD_cons_zero, List.getD_cons_succ, canonP]
              simp only [Oper.gives]
              go_simp
              exact ⟨is_mk _ _, Grow.refl _⟩
            case o3 =>
              intro vals wq hRq hpq
              simp only [List.getD_cons_zero, List.getD_cons_succ, canonP]
              simp only [Oper.gives]
              go_simp
              exact ⟨is_mk _ _, Grow.refl _⟩
            case o4 =>
              intro vals wq hRq hpq
              obtain ⟨f2, f3, _⟩ := hpq
              replace f2 : vals 2 = _ := f2
              replace f3 : vals 3 = _ := f3
              simp only [List.getD_cons_zero, List.getD_cons_succ, canonP, f2, f3]
              clear f2 f3
              simp only [Oper.gives]
              go_simp
              exact ⟨is_mk _ _, Grow.refl _⟩
            case o5 =>
              intro vals wq hRq hpq
              obtain ⟨f4, _⟩ := hpq
              replace f4 : vals 4 = _ := f4
              simp only [List.getD_cons_zero, List.getD_cons_succ, canonP, f4]
              clear f4
              simp only [Oper.gives]
              go_simp
              exact ⟨is_mk _ _, Grow.refl _⟩
            case o6 =>
              intro vals wq hRq hpq
              obtain ⟨f5, _⟩ := hpq
              replace f5 : vals 5 = _ := f5
              simp only [List.getD_cons_zero, List.getD_cons_succ, canonP, f5]
              clear f5
              have hcell := (Grow.drew w1).trans hRq
              have hcc := (Below.cell hcell (p := ⟨g, k * 4 + 3, none⟩) (by omega)).trans c3
              simp only [Oper.gives]
              go_simp
              exact ⟨is_mk _ _, Grow.refl _⟩
            case o7 =>
              intro vals wq hRq hpq
              obtain ⟨f1, f6, _⟩ := hpq
              replace f1 : vals 1 = _ := f1
              replace f6 : vals 6 = _ := f6
              simp only [List.getD_cons_zero, List.getD_cons_succ, canonP, f1, f6]
              clear f1 f6
              simp only [Oper.gives]
              go_simp
              exact ⟨is_mk _ _, Grow.refl _⟩
            case o8 =>
              intro vals wq hRq hpq
              obtain ⟨f7, _⟩ := hpq
              replace f7 : vals 7 = _ := f7
              simp only [List.getD_cons_zero, List.getD_cons_succ, canonP, f7]
              clear f7
              simp only [Oper.gives]
              go_simp
              exact ⟨is_mk _ _, Grow.refl _⟩
            case o9 =>
              intro vals wq hRq hpq
              obtain ⟨f0, _⟩ := hpq
              replace f0 : vals 0 = _ := f0
              simp only [List.getD_cons_zero, List.getD_cons_succ, canonP, f0]
              clear f0
              simp only [Oper.gives]
              go_simp
              exact ⟨is_mk _ _, Grow.refl _⟩
            case o10 =>
              intro vals wq hRq hpq
              obtain ⟨f0, f1, f2, f3, f4, f5, f6, f7, f8, f9, _⟩ := hpq
              replace f0 : vals 0 = _ := f0
              replace f1 : vals 1 = _ := f1
              replace f2 : vals 2 = _ := f2
              replace f3 : vals 3 = _ := f3
              replace f4 : vals 4 = _ := f4
              replace f5 : vals 5 = _ := f5
              replace f6 : vals 6 = _ := f6
              replace f7 : vals 7 = _ := f7
              replace f8 : vals 8 = _ := f8
              replace f9 : vals 9 = _ := f9
              simp only [List.getD_cons_zero, List.getD_cons_succ, canonP, f0, f1, f2, f3, f4, f5, f6, f7, f8, f9]
              clear f0 f1 f2 f3 f4 f5 f6 f7 f8 f9
              simp only [Oper.gives]
              go_simp
              exact ⟨is_mk _ _, Grow.refl _⟩
            case o11 =>
              intro vals wq hRq hpq
              obtain ⟨f0, f1, f2, f3, f4, f5, f6, f7, f8, f9, f10, _⟩ := hpq
              replace f0 : vals 0 = _ := f0
              replace f1 : vals 1 = _ := f1
              replace f2 : vals 2 = _ := f2
              replace f3 : vals 3 = _ := f3
              replace f4 : vals 4 = _ := f4
              replace f5 : vals 5 = _ := f5
              replace f6 : vals 6 = _ := f6
              replace f7 : vals 7 = _ := f7
              replace f8 : vals 8 = _ := f8
              replace f9 : vals 9 = _ := f9
              replace f10 : vals 10 = _ := f10
              simp only [List.getD_cons_zero, List.getD_cons_succ, canonP, f0, f1, f2, f3, f4, f5, f6, f7, f8, f9, f10]
              clear f0 f1 f2 f3 f4 f5 f6 f7 f8 f9 f10
              simp only [Oper.gives]
              go_simp
              exact ⟨is_mk _ _, Grow.refl _⟩
            intro vals wz hRwz hfwz
            obtain ⟨g0, g1, g2, g3, g4, g5, g6, g7, g8, g9, g10, g11, -⟩ := hfwz
            replace g0 : vals 0 = _ := g0
            replace g1 : vals 1 = _ := g1
            replace g2 : vals 2 = _ := g2
            replace g3 : vals 3 = _ := g3
            replace g4 : vals 4 = _ := g4
            replace g5 : vals 5 = _ := g5
            replace g6 : vals 6 = _ := g6
            replace g7 : vals 7 = _ := g7
            replace g8 : vals 8 = _ := g8
            replace g9 : vals 9 = _ := g9
            replace g10 : vals 10 = _ := g10
            replace g11 : vals 11 = _ := g11
            simp only [canonP, Act.put, List.setIfInBounds_toArray, List.set_cons_succ, List.set_cons_zero, g0, g1, g2, g3, g4, g5, g6, g7, g8, g9, g10, g11]
            clear g0 g1 g2 g3 g4 g5 g6 g7 g8 g9 g10 g11
            clear e1 e2
            go_wp2_with fail
            go_ret3
            exact ⟨by rw [HF.out]; rfl, HG.out.trans ((Grow.drew _).trans hRwz)⟩
          · have hn := HNX.out (fun hc => hl4 (HDEF.out.1 hc).2.2)
            have HN := Lib.hid hn
            clear h6 hn
            go_wp2_with fail
            go_round
            case rel => exact ⟨k + 1, by omega, by go_num, HN.out⟩
            case measure => simp only [intOf]; omega
        · have hn := HNX.out (fun hc => hge (HDEF.out.1 hc).2.1)
          have HN := Lib.hid hn
          clear h6 hn
          go_wp2_with fail
          go_round
          case rel => exact ⟨k + 1, by omega, by go_num, HN.out⟩
          case measure => simp only [intOf]; omega
      · have e6 : ((tk : Int) == 6) = false := by rw [beq_eq_false_iff_ne]; omega
        have hn := HNX.out (fun hc => h6 (HDEF.out.1 hc).1)
        have HN := Lib.hid hn
        clear h6 hn
        go_wp2_with fail
        go_round
        case rel => exact ⟨k + 1, by omega, by go_num, HN.out⟩
        case measure => simp only [intOf]; omega
    · have HF := Lib.hid (show inodeOf gr sz ni jr ino = .tuple #[.int .i64 0, .int .i64 0, .bool false] by
        unfold inodeOf
        rw [HNN.out, if_neg]
        intro ⟨a1, a2⟩
        have q1 : 0 ≤ (ino - 1) / ni := Int.ediv_nonneg (by omega) (by omega)
        have q2 : (ino - 1) / ni < gr := Int.ediv_lt_of_lt_mul (by omega) (by omega)
        have q3 : 0 ≤ (ino - 1) % ni := Int.emod_nonneg _ (by omega)
        have q4 : (ino - 1) % ni < ni := Int.emod_lt_of_pos _ (by omega)
        have HI := fun j hj => HIFF.out j hj
        generalize (ino - 1) / ni = q at *
        generalize (ino - 1) % ni = r at *
        have hq : q * sz + sz ≤ gr * sz := by
          have h5 : (q + 1) * (sz : Int) ≤ (gr : Int) * sz := Int.mul_le_mul_of_nonneg_right (by omega) (by omega)
          rw [Int.add_mul] at h5
          omega
        have hq0 : 0 ≤ q * sz := Int.mul_nonneg q1 (by omega)
        have hNI : (N : Int) = 2 + jr + (gr : Int) * sz := HNI.out
        have hlt2 : (2 + jr + q * sz + 2 + r / 4).toNat < N := by omega
        exact HNO.out _ (by omega) ((HI _ hlt2).2 ⟨a1, a2, by omega⟩))
      go_wp2_with fail
      go_ret3
      exact ⟨by rw [HF.out]; rfl, HG.out⟩
end Go.Proofs.Ytgakdaohhbdjoaa
