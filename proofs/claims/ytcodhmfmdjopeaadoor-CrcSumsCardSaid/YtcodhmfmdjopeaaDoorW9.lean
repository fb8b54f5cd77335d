/- What the helpers of the law CrcSums compute, more: the walks. -/
import Derived.Test.YtcodhmfmdjopeaaDoorW8
import Derived.Maps.AppendAt
import Derived.Laws.AppendOwnNone
set_option linter.unusedVariables false
set_option linter.unusedSimpArgs false
namespace Go.Proofs.YtcodhmfmdjopeaaDoor
open Go.RowKit
open CrcPlain (sh shn tm steps one step run)

abbrev vs (l : List Nat) : List Value := l.map fun x => Value.int .u8 ((x : Nat) : Int)
/-- an append of a piece, wherever it lies -/
theorem append_piece {w : World} {ops : Array Oper} {rest : List Oper} {o : Oper} {a : Act} {Q : Exit → Act → World → Prop} (hgd : o.guard = none) (s x : Operand)
    (ho : o.op = .call { callee := .builtin .append, args := #[s, x], argTypes := #[24, 24] })
    (base : Nat) (v : Value) (n : Nat) (xs : List Nat) (hs : a.eval s = v) (hown : w.ownsRow base 5 1 v n (vs xs))
    (A : Option Addr) (m c : Nat) (bs : List Nat) (hx : a.eval x = .slice A m c) (hp : Bytes w A m bs) (hnil : A = none → c = 0) (h63 : n + m ≤ 140737488355328) (hbase : base ≤ w.heap.size)
    (h : ∀ v' w', w'.ownsRow base 5 1 v' (n + m) (vs (xs ++ bs)) → w.grownBy w' v.ownBlock → (v'.ownBlock = v.ownBlock ∨ v'.ownBlock = some w.heap.size) → wpList Tryd.prog ops Q rest (a.put o.dst v') w') :
    wpList Tryd.prog ops Q (o :: rest) a w := by
  obtain ⟨i0, hi, hz0, hz1, hz2⟩ := info_parts info8
  cases A with
  | none =>
    have hm : m = 0 := by
      rcases Nat.eq_zero_or_pos m with h0 | h0
      · exact h0
      · obtain ⟨ad, h1, _⟩ := hp.2.2 h0; cases h1
    subst hm
    have hb : bs = [] := List.eq_nil_of_length_eq_zero hp.1
    subst hb
    rw [hnil rfl] at hx
    refine wpList_append_own_none hgd s x 24 ho base 5 i0 1 Tryd.underlying24 hi v n (vs xs) hs hown hx (h v w ?_ (World.grownBy.refl w _) (.inl rfl))
    simpa using hown
  | some ad =>
    refine wpList_append_own_at w hgd s x 24 ho base 5 i0 (.int .u8 0) 1 1 Tryd.underlying24 hi hz0 hz1 hz2 rfl (by decide) v n (vs xs) hs hown ad m c (vs bs) hx (by simp [hp.1]) ?_ ?_ (by unfold maxLen; omega) (by omega) hbase ?_
    · intro j u hu
      rw [List.getElem?_map] at hu
      have hj : j < bs.length := by
        rcases Nat.lt_or_ge j bs.length with h | h
        · exact h
        · simp [List.getElem?_eq_none h] at hu
      obtain ⟨ad', had, hcell⟩ := hp.2.2 (by have := hp.1; omega)
      obtain rfl := Option.some.inj had
      rw [hcell j (by have := hp.1; omega), ← hu, List.getD_eq_getElem?_getD]
      simp [hj]
    · intro u hu; obtain ⟨y, _, rfl⟩ := List.mem_map.1 hu; rfl
    · intro v' w' h1 h2 _ h4
      exact h v' w' (by simpa [vs] using h1) h2 h4

theorem all_take_len (ps : List Piece) (w : World) (hok : ∀ p ∈ ps, p.ok w) (k : Nat) : (all (ps.take k)).length ≤ (ps.map Piece.n).sum := by
  have h : ∀ (l : List Piece), (∀ p ∈ l, p.ok w) → ∀ k, (all (l.take k)).length ≤ (l.map Piece.n).sum := by
    intro l
    induction l with
    | nil => intro _ k; simp [all]
    | cons p l ih =>
      intro hl k
      cases k with
      | zero => simp [all]
      | succ k =>
        have h1 := ih (fun q hq => hl q (by simp [hq])) k
        have h2 := (hl p (by simp)).1
        simp only [List.take_succ_cons, all, List.flatMap_cons, List.length_append, List.map_cons, List.sum_cons] at h1 ⊢
        omega
  exact h ps hok k

set_option maxHeartbeats 1000000 in
theorem all_any (A : Option Addr) (n c : Nat) (ps : List Piece) (w : World) (hp : Pieces w A n ps) (hn : n ≤ 100) (hs : (ps.map Piece.n).sum ≤ 20000) (hnil : ∀ p ∈ ps, p.A = none → p.c = 0) :
    Calls Tryd.prog 13 #[.slice A n c] w fun e w' => (∃ v, e = .returned v ∧ w'.ownsRow w.heap.size 5 1 v (all ps).length (vs (all ps))) ∧ Below w.heap.size w w' := by
  have HP := Lib.hid hp
  clear hp
  go_enter Tryd.func13, Tryd.ntmps13
  go_wp2_with fail
  go_loopw [3, 4] (fun v i wr => ∃ k : Nat, k ≤ n ∧ i = .int .i64 (k : Int) ∧ wr.ownsRow w.heap.size 5 1 v (all (ps.take k)).length (vs (all (ps.take k))) ∧ Below w.heap.size w wr) (fun _ i _ => n - (intOf i).toNat)
  case atStart => exact ⟨0, by omega, rfl, World.ownsRow_nil _ _ _ _, Below.refl _ _⟩
  case round =>
    obtain ⟨k, hk, rfl, hown, hbw⟩ := hrel
    have HO := Lib.hid hown
    have HB := Lib.hid hbw
    clear hown hbw
    by_cases hlt : k < n
    · obtain ⟨ad, rfl, hc⟩ := HP.out.2.2 (by omega)
      have hcell := Ext.below HB.out _ _ (hc k hlt)
      have hl : k < ps.length := by rw [HP.out.1]; exact hlt
      have hmem : ps.getD k none_ ∈ ps := by
        rw [List.getD_eq_getElem?_getD, List.getElem?_eq_getElem hl]; exact List.getElem_mem hl
      have HQ := Lib.hid (Bytes.ext (HP.out.2.1 _ hmem) (Ext.below HB.out))
      have HN := Lib.hid (hnil _ hmem)
      have hsn := take_snoc ps k none_ hl
      have hal : all (ps.take (k + 1)) = all (ps.take k) ++ (ps.getD k none_).bs := by rw [hsn]; simp [all]
      have hlen := all_take_len ps w HP.out.2.1 (k + 1)
      have HA := Lib.hid hal
      rw [hal, List.length_append, HQ.out.1] at hlen
      clear hc hl hmem hsn hal
      generalize ps.getD k none_ = p at *
      obtain ⟨pA, pn, pc, bs⟩ := p
      unfold Piece.val at hcell
      dsimp only at hcell hlen HQ HN HA
      go_wp2_with (at_builtin; refine append_piece rfl _ _ rfl w.heap.size _ _ _ rfl HO.out pA pn pc bs rfl HQ.out HN.out ?c1 ?c2 ?_)
      case c1 => omega
      case c2 => exact HB.out.size
      intro v' w2 hown' hgrow _
      have OW := Lib.hid hown'
      have BW := Lib.hid (HB.out.grown hgrow HB.out.size (fun g hg => (HO.out.lt g hg).1))
      clear hown' hgrow
      go_wp2_with fail
      go_roundw
      case rel =>
        refine ⟨k + 1, by omega, by go_num, ?_, BW.out⟩
        rw [HA.out, List.length_append, HQ.out.1]
        simpa [vs] using OW.out
      case measure => simp only [intOf]; omega
    · obtain rfl : k = n := by omega
      have HE := Lib.hid (show ps.take k = ps from List.take_of_length_le (by rw [HP.out.1]; omega))
      go_wp2_with fail
      go_ret
      refine ⟨⟨_, rfl, ?_⟩, HB.out⟩
      have := HO.out
      rw [HE.out] at this
      exact this

set_option maxRecDepth 100000 in
set_option maxHeartbeats 1000000 in
theorem same_any (A B : Option Addr) (n c d : Nat) (bs : List Nat) (w : World) (ha : Bytes w A n bs) (hb : Bytes w B n bs) (hn : n ≤ 20000) :
    Calls Tryd.prog 14 #[.slice A n c, .slice B n d] w fun e w' => e = .returned (.bool true) ∧ Grow w w' := by
  have HA := Lib.hid ha
  have HB := Lib.hid hb
  have hne : ((n : Int) != (n : Int)) = false := by simp
  clear ha hb
  go_enter Tryd.func14, Tryd.ntmps14
  go_wp2_with fail
  go_loopw [5] (fun i wr => ∃ k : Nat, k ≤ n ∧ i = .int .i64 (k : Int) ∧ Grow w wr) (fun i _ => n - (intOf i).toNat)
  case atStart => exact ⟨0, by omega, rfl, Grow.refl _⟩
  case round =>
    obtain ⟨k, hk, rfl, hgr⟩ := hrel
    have HG := Lib.hid hgr
    clear hgr
    by_cases hlt : k < n
    · obtain ⟨ad, rfl, hc⟩ := HA.out.2.2 (by omega)
      obtain ⟨bd, rfl, hd⟩ := HB.out.2.2 (by omega)
      have CA := Lib.hid (Ext.below HG.out _ _ (hc k hlt))
      have CB := Lib.hid (Ext.below HG.out _ _ (hd k hlt))
      clear hc hd
      generalize bs.getD k 0 = x at *
      have hxx : ((x : Int) != (x : Int)) = false := by simp
      go_wp2_with fail
      refine wp_region_facts (by kernel_rfl) [[], [], [(0, some 17), (1, some 18)], [(2, some 19)], [], [], [(4, some 21), (5, some 22)], [(6, some 23)], [(3, some 20), (7, some 24)]] [(0, some 17), (1, some 18), (2, some 19), (3, some 20), (4, some 21), (5, some 22), (6, some 23), (7, some 24), (8, some 25)] (by kernel_rfl) (by kernel_rfl) (by kernel_rfl) (Grow) Grow.refl Grow.trans [Is (Value.slice (some ad) n c), Is (Value.int .i64 (k : Int)), Is (Value.pointer (some (ad.add k))), Is (Value.int .u8 (x : Int)), Is (Value.slice (some bd) n d), Is (Value.int .i64 (k : Int)), Is (Value.pointer (some (bd.add k))), Is (Value.int .u8 (x : Int)), Is (Value.bool false)] rfl ⟨is_stab _ _, is_stab _ _, is_stab _ _, is_stab _ _, is_stab _ _, is_stab _ _, is_stab _ _, is_stab _ _, is_stab _ _, trivial⟩ ⟨?o0, ?o1, ?o2, ?o3, ?o4, ?o5, ?o6, ?o7, ?o8, trivial⟩ ?_
      case o0 =>
        intro vals wq hRq hpq
        simp only [List.getD_cons_zero, List.getD_cons_succ, canonP]
        simp only [Oper.gives]
        go_simp
        exact ⟨is_mk _ _, Grow.refl _⟩
      case o1 =>
        intro vals wq hRq hpq
        simp only [List.getD_cons_zero, List.getD_cons_succ, canonP]
        simp only [Oper.gives]
        go_simp
        exact ⟨is_mk _ _, Grow.refl _⟩
      case o2 =>
        intro vals wq hRq hpq
        obtain ⟨f0, f1, _⟩ := hpq
        replace f0 : vals 0 = _ := f0
        replace f1 : vals 1 = _ := f1
        simp only [List.getD_cons_zero, List.getD_cons_succ, canonP, f0, f1]
        clear f0 f1
        simp only [Oper.gives]
        go_simp
        exact ⟨is_mk _ _, Grow.refl _⟩
      case o3 =>
        intro vals wq hRq hpq
        obtain ⟨f2, _⟩ := hpq
        replace f2 : vals 2 = _ := f2
        simp only [List.getD_cons_zero, List.getD_cons_succ, canonP, f2]
        clear f2
        have hcell := Grow.ext hRq _ _ CA.out
        simp only [Oper.gives]
        go_simp
        exact ⟨is_mk _ _, Grow.refl _⟩
      case o4 =>
        intro vals wq hRq hpq
        simp only [List.getD_cons_zero, List.getD_cons_succ, canonP]
        simp only [Oper.gives]
        go_simp
        exact ⟨is_mk _ _, Grow.refl _⟩
      case o5 =>
        intro vals wq hRq hpq
        simp only [List.getD_cons_zero, List.getD_cons_succ, canonP]
        simp only [Oper.gives]
        go_simp
        exact ⟨is_mk _ _, Grow.refl _⟩
      case o6 =>
        intro vals wq hRq hpq
        obtain ⟨f4, f5, _⟩ := hpq
        replace f4 : vals 4 = _ := f4
        replace f5 : vals 5 = _ := f5
        simp only [List.getD_cons_zero, List.getD_cons_succ, canonP, f4, f5]
        clear f4 f5
        simp only [Oper.gives]
        go_simp
        exact ⟨is_mk _ _, Grow.refl _⟩
      case o7 =>
        intro vals wq hRq hpq
        obtain ⟨f6, _⟩ := hpq
        replace f6 : vals 6 = _ := f6
        simp only [List.getD_cons_zero, List.getD_cons_succ, canonP, f6]
        clear f6
        have hcell := Grow.ext hRq _ _ CB.out
        simp only [Oper.gives]
        go_simp
        exact ⟨is_mk _ _, Grow.refl _⟩
      case o8 =>
        intro vals wq hRq hpq
        obtain ⟨f3, f7, _⟩ := hpq
        replace f3 : vals 3 = _ := f3
        replace f7 : vals 7 = _ := f7
        simp only [List.getD_cons_zero, List.getD_cons_succ, canonP, f3, f7]
        clear f3 f7
        simp only [Oper.gives]
        go_simp
        exact ⟨is_mk _ _, Grow.refl _⟩
      intro vals wz hRwz hfwz
      obtain ⟨g0, g1, g2, g3, g4, g5, g6, g7, g8, -⟩ := hfwz
      replace g0 : vals 0 = _ := g0
      replace g1 : vals 1 = _ := g1
      replace g2 : vals 2 = _ := g2
      replace g3 : vals 3 = _ := g3
      replace g4 : vals 4 = _ := g4
      replace g5 : vals 5 = _ := g5
      replace g6 : vals 6 = _ := g6
      replace g7 : vals 7 = _ := g7
      replace g8 : vals 8 = _ := g8
      simp only [canonP, Act.put, List.setIfInBounds_toArray, List.set_cons_succ, List.set_cons_zero, g0, g1, g2, g3, g4, g5, g6, g7, g8]
      clear g0 g1 g2 g3 g4 g5 g6 g7 g8
      have GZ := Lib.hid (Grow.trans _ _ _ HG.out (Grow.trans _ _ _ (show Grow wr wr.drew from (Below.refl _ _).drew) hRwz))
      clear hRwz
      go_wp2_with fail
      go_roundw
      case rel => exact ⟨k + 1, by omega, by go_num, GZ.out⟩
      case measure => simp only [intOf]; omega
    · go_wp2_with fail
      go_ret
      exact ⟨rfl, HG.out⟩
end Go.Proofs.YtcodhmfmdjopeaaDoor
