/- The law CrcPieces: the walk. -/
import Derived.Test.YtcodhmfmdjopeaaDoorW4
import Derived.Test.YtcodhmfmdjopeaaDoorRegion
set_option linter.unusedVariables false
set_option linter.unusedSimpArgs false
namespace Go.Proofs.YtcodhmfmdjopeaaDoor
open Go.RowKit
open CrcPlain (sh shn tm steps one step run)

theorem cut_head {P : Program} {t : TypeId} (ht : P.underlying t = some (.slice (P.elem t))) (hs : ∀ w : World, (sizeOf (P.elem t)).run P w = .ok 1 w) (A : Option Addr) (n c k : Nat) (hk : k ≤ c) (w : World) :
    (Instr.slice t (.slice A n c) none (some (.int .i64 (k : Int))) none).run P w = .ok (.slice A k c) w := by
  rw [run_slice_h w t A n c ht .i64 k (by omega) (by omega), hs]
  by_cases h : c = 0
  · simp [Result.andThen, sliced, h]
  · cases A <;> simp [Result.andThen, sliced, h, Addr.add]
theorem cut_tail {P : Program} {t : TypeId} (ht : P.underlying t = some (.slice (P.elem t))) (hs : ∀ w : World, (sizeOf (P.elem t)).run P w = .ok 1 w) (A : Option Addr) (n c k : Nat) (hn : n ≤ c) (hk : k ≤ n) :
    ∃ X : Option Addr, (∀ w : World, (Instr.slice t (.slice A n c) (some (.int .i64 (k : Int))) none none).run P w = .ok (.slice X (n - k) (c - k)) w) ∧ (k < n → ∀ ad, A = some ad → X = some (ad.add k)) := by
  by_cases h : c = k
  · refine ⟨A, fun w => ?_, fun h1 => by omega⟩
    rw [run_slice_l w t A n c ht .i64 k (by omega) (by omega), hs]
    simp [Result.andThen, sliced, h]
  · refine ⟨A.map (·.add k), fun w => ?_, fun h1 ad e => by rw [e]; rfl⟩
    rw [run_slice_l w t A n c ht .i64 k (by omega) (by omega), hs]
    simp [Result.andThen, sliced, h]
theorem Bytes.head {w : World} {A : Option Addr} {n : Nat} {bs : List Nat} (h : Bytes w A n bs) {k : Nat} (hk : k ≤ n) : Bytes w A k (bs.take k) := by
  refine ⟨by rw [List.length_take, h.1]; omega, fun x hx => h.2.1 x (List.mem_of_mem_take hx), fun hp => ?_⟩
  obtain ⟨ad, ha, hc⟩ := h.2.2 (by omega)
  refine ⟨ad, ha, fun j hj => ?_⟩
  rw [hc j (by omega), List.getD_eq_getElem?_getD, List.getD_eq_getElem?_getD, List.getElem?_take_of_lt hj]
theorem add_add (a : Addr) (i j : Nat) : (a.add i).add j = a.add (i + j) := by
  unfold Addr.add
  by_cases hi : i = 0 <;> by_cases hj : j = 0 <;> simp [hi, hj, Nat.add_assoc]
theorem Bytes.tail {w : World} {A X : Option Addr} {n : Nat} {bs : List Nat} (h : Bytes w A n bs) {k : Nat} (hk : k ≤ n) (hX : k < n → ∀ ad, A = some ad → X = some (ad.add k)) : Bytes w X (n - k) (bs.drop k) := by
  refine ⟨by rw [List.length_drop, h.1], fun x hx => h.2.1 x (List.mem_of_mem_drop hx), fun hp => ?_⟩
  obtain ⟨ad, ha, hc⟩ := h.2.2 (by omega)
  refine ⟨ad.add k, hX (by omega) ad ha, fun j hj => ?_⟩
  rw [add_add, hc (k + j) (by omega), List.getD_eq_getElem?_getD, List.getD_eq_getElem?_getD, List.getElem?_drop]
theorem under24 : Tryd.prog.underlying 24 = some (.slice (Tryd.prog.elem 24)) := by kernel_rfl
theorem size24 (w : World) : (sizeOf (Tryd.prog.elem 24)).run Tryd.prog w = .ok 1 w := by kernel_rfl
theorem pieces_two (w : World) (p q : Piece) (hp : p.ok w) (hq : q.ok w) : ∃ W : World, Below w.heap.size w W ∧ Ext w W ∧ Pieces W (some ⟨w.heap.size, 0, none⟩) 2 [p, q] ∧
    W = w.alloc (Obj.cells #[Value.slice p.A p.n p.c, Value.slice q.A q.n q.c] 24) := by
  refine ⟨_, (Below.refl _ _).alloc (Nat.le_refl _) _, Ext.alloc _ _, ?_, rfl⟩
  exact pieces_new w [p, q] 24 (0, 0) (by intro s hs; simp only [List.mem_cons, List.not_mem_nil, or_false] at hs; rcases hs with rfl | rfl <;> assumption)

/-- all that was there is there still -/
def Grow (w w' : World) : Prop := Below w.heap.size w w'
theorem Grow.refl (w : World) : Grow w w := Below.refl _ _
theorem Grow.trans (a b c : World) (h : Grow a b) (h' : Grow b c) : Grow a c := Below.trans h (Below.mono h' (Below.size h))
theorem Grow.alloc (w : World) (o : Obj) : Grow w (w.alloc o) := (Below.refl _ _).alloc (Nat.le_refl _) _
theorem Grow.ext {w w' : World} (h : Grow w.drew w') : Ext w w' := fun a v hv => Ext.below (w := w.drew) h a v hv
/-- a row of pieces, wherever it lies -/
def Row (ps : List Piece) : Value → World → Prop := fun v w => ∃ b, v = .slice (some ⟨b, 0, none⟩) ps.length ps.length ∧ Pieces w (some ⟨b, 0, none⟩) ps.length ps
theorem row_stab (ps : List Piece) : Stab Grow (Row ps) := fun _ _ _ hg ⟨b, hv, hp⟩ => ⟨b, hv, hp.ext (Ext.below hg)⟩
theorem row_new (w : World) (ps : List Piece) (h : ∀ p ∈ ps, p.ok w) : Row ps (.slice (some ⟨w.heap.size, 0, none⟩) ps.length ps.length) (w.alloc (.cells (ps.map Piece.val).toArray 24)) :=
  ⟨_, rfl, pieces_new w ps 24 (0, 0) h⟩
/-- the sum, as a fact that stays -/
theorem sum_gives (ps : List Piece) (v : Value) (w : World) (r : Int) (ht : Tab w) (hv : Row ps v w) (hn : ps.length ≤ 100) (hb : ∀ p ∈ ps, p.n ≤ 9223372036854775807) (hr : ((CrcPlain.sum (all ps)).toNat : Int) = r) :
    Calls Tryd.prog 11 #[v] w fun e w'' => ∃ u, e = .returned u ∧ Is (.int .u32 r) u w'' ∧ Grow w w'' := by
  obtain ⟨b, rfl, hp⟩ := hv
  exact (sum_at _ _ _ ps w r ht hp (by omega) hb hr).mono fun e w' ⟨he, hw⟩ => ⟨_, he, rfl, by rw [← hw]; exact Grow.refl _⟩

set_option maxRecDepth 100000 in
set_option maxHeartbeats 2000000 in
theorem pieces_walk (A : Option Addr) (n c : Nat) (bs : List Nat) (k : Nat) (w : World) (ht : Tab w) (hp : Bytes w A n bs) (hn : n ≤ c) (hc : c ≤ 140737488351232) (hk : k ≤ n) (hle : n ≤ 20000) :
    Calls Tryd.prog 8 #[.slice A n c, .int .i64 (k : Int)] w fun e w' => e = .returned (.bool true) ∧ Below w.heap.size w w' := by
  have d1 : decide ((20000 : Int) < (n : Int)) = false := by simp; omega
  have d2 : decide ((k : Int) < 0) = false := by simp
  have d3 : decide (n < k) = false := by simp; omega
  have hs1 := fun w => cut_head under24 size24 A n c k (by omega) w
  obtain ⟨X, hs2, hX⟩ := cut_tail under24 size24 A n c k hn hk
  have HT := Lib.hid ht
  have HP := Lib.hid hp
  have HX := Lib.hid hX
  clear ht hp hX
  go_enter Tryd.func8, Tryd.ntmps8
  go_wp2_with fail
  refine (awake_any _ HT.out).mono ?_
  rintro e w1 ⟨rfl, hb⟩
  have e0 := Ext.below hb
  obtain ⟨W1, b1, e1, r1, hW1⟩ := piece_in w1 ⟨A, n, c, bs⟩ (HP.out.ext e0)
  have HP1 := Lib.hid (HP.out.ext (e0.trans e1))
  have T1 := Lib.hid (HT.out.ext (e0.trans e1))
  have R1 := Lib.hid r1
  have HW1 := Lib.hid hW1
  have HB1 := Lib.hid (hb.trans (b1.mono hb.size))
  clear hb e0 b1 e1 r1 hW1
  go_wp2_with fail
  rw [← HW1.out]
  refine (sum_to _ 1 1 _ _ T1.out R1.out (by omega) (by simp; omega)).mono ?_
  rintro e w' ⟨rfl, rfl⟩
  rw [all_one]
  dsimp only
  have P1 : (⟨A, k, c, bs.take k⟩ : Piece).ok W1 := HP1.out.head hk
  have P2 : (⟨X, n - k, c - k, bs.drop k⟩ : Piece).ok W1 := HP1.out.tail hk HX.out
  have P3 : (⟨A, n, c, bs⟩ : Piece).ok W1 := HP1.out
  have hal : all [⟨A, k, c, bs.take k⟩, ⟨X, n - k, c - k, bs.drop k⟩] = bs := by simp [all]
  have hbl : all [none_, ⟨A, n, c, bs⟩, none_] = bs := by simp [all, none_]
  have hcl : all [⟨A, k, c, bs.take k⟩, none_, ⟨X, n - k, c - k, bs.drop k⟩] = bs := by simp [all, none_]
  have HA := Lib.hid hal
  have HBL := Lib.hid hbl
  have HC := Lib.hid hcl
  have P1 := Lib.hid P1
  have P2 := Lib.hid P2
  have P3 := Lib.hid P3
  clear hal hbl hcl
  go_wp2_with fail
  refine wp_region_facts (by kernel_rfl) [[], [], [(0, some 24), (1, some 25)], [], [], [(3, some 27), (4, some 28)], [(2, some 26), (5, some 29)], [(6, some 30)], [], [(7, some 31), (8, some 32)], [(7, some 31), (9, some 33)], [(10, some 34)], [(10, some 34), (11, some 35)], [(10, some 34), (12, some 36)], [(10, some 34)], [(10, some 34), (13, some 37), (14, some 38)], [(10, some 34), (15, some 39)], [(13, some 37), (16, some 40)], [(17, some 41)], [(17, some 41)], [(17, some 41), (18, some 42), (19, some 43)], [(17, some 41)], [(17, some 41)], [(17, some 41), (21, some 45), (22, some 46)], [(17, some 41), (20, some 44), (23, some 47)], [(17, some 41), (24, some 48)], [(17, some 41)], [(17, some 41), (25, some 49), (26, some 50)], [(17, some 41), (27, some 51)], [(0, some 24), (1, some 25), (2, some 26), (3, some 27), (4, some 28), (5, some 29), (6, some 30), (7, some 31), (8, some 32), (9, some 33), (10, some 34), (11, some 35), (12, some 36), (13, some 37), (14, some 38), (15, some 39), (16, some 40), (17, some 41), (18, some 42), (19, some 43), (20, some 44), (21, some 45), (22, some 46), (23, some 47), (24, some 48), (25, some 49), (26, some 50), (27, some 51), (28, some 52)]] [(0, some 24), (1, some 25), (2, some 26), (3, some 27), (4, some 28), (5, some 29), (6, some 30), (7, some 31), (8, some 32), (9, some 33), (10, some 34), (11, some 35), (12, some 36), (13, some 37), (14, some 38), (15, some 39), (16, some 40), (17, some 41), (18, some 42), (19, some 43), (20, some 44), (21, some 45), (22, some 46), (23, some 47), (24, some 48), (25, some 49), (26, some 50), (27, some 51), (28, some 52), (29, some 4)] (by kernel_rfl) (by kernel_rfl) (by kernel_rfl) (Grow) Grow.refl Grow.trans [Is (Value.slice A n c), Is (Value.int .i64 (k : Int)), Is (Value.slice A k c), Is (Value.slice A n c), Is (Value.int .i64 (k : Int)), Is (Value.slice X (n - k) (c - k)), Row [⟨A, k, c, bs.take k⟩, ⟨X, n - k, c - k, bs.drop k⟩], Is (.int .u32 ((CrcPlain.sum bs).toNat : Int)), Is (Value.int .u32 ((CrcPlain.sum bs).toNat : Int)), Is (Value.bool true), Is (Value.bool true), Is (Value.slice A n c), Row [none_, ⟨A, n, c, bs⟩, none_], Is (.int .u32 ((CrcPlain.sum bs).toNat : Int)), Is (Value.int .u32 ((CrcPlain.sum bs).toNat : Int)), Is (Value.bool true), Is (Value.bool true), Is (Value.bool true), Is (Value.slice A n c), Is (Value.int .i64 (k : Int)), Is (Value.slice A k c), Is (Value.slice A n c), Is (Value.int .i64 (k : Int)), Is (Value.slice X (n - k) (c - k)), Row [⟨A, k, c, bs.take k⟩, none_, ⟨X, n - k, c - k, bs.drop k⟩], Is (.int .u32 ((CrcPlain.sum bs).toNat : Int)), Is (Value.int .u32 ((CrcPlain.sum bs).toNat : Int)), Is (Value.bool true), Is (Value.bool true), Is (Value.bool true)] rfl ⟨is_stab _ _, is_stab _ _, is_stab _ _, is_stab _ _, is_stab _ _, is_stab _ _, row_stab _, is_stab _ _, is_stab _ _, is_stab _ _, is_stab _ _, is_stab _ _, row_stab _, is_stab _ _, is_stab _ _, is_stab _ _, is_stab _ _, is_stab _ _, is_stab _ _, is_stab _ _, is_stab _ _, is_stab _ _, is_stab _ _, is_stab _ _, row_stab _, is_stab _ _, is_stab _ _, is_stab _ _, is_stab _ _, is_stab _ _, trivial⟩ ⟨?o0, ?o1, ?o2, ?o3, ?o4, ?o5, ?o6, ?o7, ?o8, ?o9, ?o10, ?o11, ?o12, ?o13, ?o14, ?o15, ?o16, ?o17, ?o18, ?o19, ?o20, ?o21, ?o22, ?o23, ?o24, ?o25, ?o26, ?o27, ?o28, ?o29, trivial⟩ ?_
  case o0 =>
    intro vals wq hRq hpq
    simp only [List.getD_cons_zero, List.getD_cons_succ, canonP]
    simp only [Oper.gives]
    go_simp
    exact ⟨is_mk _ _, Grow.refl _⟩
  case o1 =>
    intro vals wq hRq hpq
    simp only [List.getD_cons_zero, List.getD_cons_succ, canonP]
    simp only [Oper.gives]
    go_simp
    exact ⟨is_mk _ _, Grow.refl _⟩
  case o2 =>
    intro vals wq hRq hpq
    obtain ⟨f0, f1, _⟩ := hpq
    replace f0 : vals 0 = _ := f0
    replace f1 : vals 1 = _ := f1
    simp only [List.getD_cons_zero, List.getD_cons_succ, canonP, f0, f1]
    clear f0 f1
    simp only [Oper.gives]
    go_simp
    exact ⟨is_mk _ _, Grow.refl _⟩
  case o3 =>
    intro vals wq hRq hpq
    simp only [List.getD_cons_zero, List.getD_cons_succ, canonP]
    simp only [Oper.gives]
    go_simp
    exact ⟨is_mk _ _, Grow.refl _⟩
  case o4 =>
    intro vals wq hRq hpq
    simp only [List.getD_cons_zero, List.getD_cons_succ, canonP]
    simp only [Oper.gives]
    go_simp
    exact ⟨is_mk _ _, Grow.refl _⟩
  case o5 =>
    intro vals wq hRq hpq
    obtain ⟨f3, f4, _⟩ := hpq
    replace f3 : vals 3 = _ := f3
    replace f4 : vals 4 = _ := f4
    simp only [List.getD_cons_zero, List.getD_cons_succ, canonP, f3, f4]
    clear f3 f4
    simp only [Oper.gives]
    go_simp
    exact ⟨is_mk _ _, Grow.refl _⟩
  case o6 =>
    intro vals wq hRq hpq
    obtain ⟨f2, f5, _⟩ := hpq
    replace f2 : vals 2 = _ := f2
    replace f5 : vals 5 = _ := f5
    simp only [List.getD_cons_zero, List.getD_cons_succ, canonP, f2, f5]
    clear f2 f5
    simp only [Oper.gives]
    go_simp
    exact ⟨row_new wq [⟨A, k, c, bs.take k⟩, ⟨X, n - k, c - k, bs.drop k⟩] (by intro p hp; simp only [List.mem_cons, List.not_mem_nil, or_false] at hp; have e := Grow.ext hRq; rcases hp with rfl | rfl; exact P1.out.ext e; exact P2.out.ext e), Grow.alloc _ _⟩
  case o7 =>
    intro vals wq hRq hpq
    obtain ⟨f6, _⟩ := hpq
    simp only [List.getD_cons_zero, List.getD_cons_succ, canonP]
    simp only [Oper.gives]
    go_simp
    exact sum_gives [⟨A, k, c, bs.take k⟩, ⟨X, n - k, c - k, bs.drop k⟩] _ _ _ (T1.out.ext (Grow.ext hRq)) f6 (by simp) (by simp [none_]; omega) (by rw [HA.out])
  case o8 =>
    intro vals wq hRq hpq
    simp only [List.getD_cons_zero, List.getD_cons_succ, canonP]
    simp only [Oper.gives]
    go_simp
    exact ⟨is_mk _ _, Grow.refl _⟩
  case o9 =>
    intro vals wq hRq hpq
    obtain ⟨f7, f8, _⟩ := hpq
    replace f7 : vals 7 = _ := f7
    replace f8 : vals 8 = _ := f8
    simp only [List.getD_cons_zero, List.getD_cons_succ, canonP, f7, f8]
    clear f7 f8
    simp only [Oper.gives]
    go_simp
    exact ⟨is_mk _ _, Grow.refl _⟩
  case o10 =>
    intro vals wq hRq hpq
    obtain ⟨f7, f9, _⟩ := hpq
    replace f7 : vals 7 = _ := f7
    replace f9 : vals 9 = _ := f9
    simp only [List.getD_cons_zero, List.getD_cons_succ, canonP, f7, f9]
    clear f7 f9
    simp only [Oper.gives]
    go_simp
    exact ⟨is_mk _ _, Grow.refl _⟩
  case o11 =>
    intro vals wq hRq hpq
    obtain ⟨f10, _⟩ := hpq
    replace f10 : vals 10 = _ := f10
    simp only [List.getD_cons_zero, List.getD_cons_succ, canonP, f10]
    clear f10
    simp only [Oper.gives]
    go_simp
    exact ⟨is_mk _ _, Grow.refl _⟩
  case o12 =>
    intro vals wq hRq hpq
    obtain ⟨f10, f11, _⟩ := hpq
    replace f10 : vals 10 = _ := f10
    replace f11 : vals 11 = _ := f11
    simp only [List.getD_cons_zero, List.getD_cons_succ, canonP, f10, f11]
    clear f10 f11
    simp only [Oper.gives]
    go_simp
    exact ⟨row_new wq [none_, ⟨A, n, c, bs⟩, none_] (by intro p hp; simp only [List.mem_cons, List.not_mem_nil, or_false] at hp; have e := Grow.ext hRq; rcases hp with rfl | rfl | rfl; exact none_ok _; exact P3.out.ext e; exact none_ok _), Grow.alloc _ _⟩
  case o13 =>
    intro vals wq hRq hpq
    obtain ⟨f10, f12, _⟩ := hpq
    replace f10 : vals 10 = _ := f10
    simp only [List.getD_cons_zero, List.getD_cons_succ, canonP, f10]
    clear f10
    simp only [Oper.gives]
    go_simp
    exact sum_gives [none_, ⟨A, n, c, bs⟩, none_] _ _ _ (T1.out.ext (Grow.ext hRq)) f12 (by simp) (by simp [none_]; omega) (by rw [HBL.out])
  case o14 =>
    intro vals wq hRq hpq
    obtain ⟨f10, _⟩ := hpq
    replace f10 : vals 10 = _ := f10
    simp only [List.getD_cons_zero, List.getD_cons_succ, canonP, f10]
    clear f10
    simp only [Oper.gives]
    go_simp
    exact ⟨is_mk _ _, Grow.refl _⟩
  case o15 =>
    intro vals wq hRq hpq
    obtain ⟨f10, f13, f14, _⟩ := hpq
    replace f10 : vals 10 = _ := f10
    replace f13 : vals 13 = _ := f13
    replace f14 : vals 14 = _ := f14
    simp only [List.getD_cons_zero, List.getD_cons_succ, canonP, f10, f13, f14]
    clear f10 f13 f14
    simp only [Oper.gives]
    go_simp
    exact ⟨is_mk _ _, Grow.refl _⟩
  case o16 =>
    intro vals wq hRq hpq
    obtain ⟨f10, f15, _⟩ := hpq
    replace f10 : vals 10 = _ := f10
    replace f15 : vals 15 = _ := f15
    simp only [List.getD_cons_zero, List.getD_cons_succ, canonP, f10, f15]
    clear f10 f15
    simp only [Oper.gives]
    go_simp
    exact ⟨is_mk _ _, Grow.refl _⟩
  case o17 =>
    intro vals wq hRq hpq
    obtain ⟨f13, f16, _⟩ := hpq
    replace f13 : vals 13 = _ := f13
    replace f16 : vals 16 = _ := f16
    simp only [List.getD_cons_zero, List.getD_cons_succ, canonP, f13, f16]
    clear f13 f16
    simp only [Oper.gives]
    go_simp
    exact ⟨is_mk _ _, Grow.refl _⟩
  case o18 =>
    intro vals wq hRq hpq
    obtain ⟨f17, _⟩ := hpq
    replace f17 : vals 17 = _ := f17
    simp only [List.getD_cons_zero, List.getD_cons_succ, canonP, f17]
    clear f17
    simp only [Oper.gives]
    go_simp
    exact ⟨is_mk _ _, Grow.refl _⟩
  case o19 =>
    intro vals wq hRq hpq
    obtain ⟨f17, _⟩ := hpq
    replace f17 : vals 17 = _ := f17
    simp only [List.getD_cons_zero, List.getD_cons_succ, canonP, f17]
    clear f17
    simp only [Oper.gives]
    go_simp
    exact ⟨is_mk _ _, Grow.refl _⟩
  case o20 =>
    intro vals wq hRq hpq
    obtain ⟨f17, f18, f19, _⟩ := hpq
    replace f17 : vals 17 = _ := f17
    replace f18 : vals 18 = _ := f18
    replace f19 : vals 19 = _ := f19
    simp only [List.getD_cons_zero, List.getD_cons_succ, canonP, f17, f18, f19]
    clear f17 f18 f19
    simp only [Oper.gives]
    go_simp
    exact ⟨is_mk _ _, Grow.refl _⟩
  case o21 =>
    intro vals wq hRq hpq
    obtain ⟨f17, _⟩ := hpq
    replace f17 : vals 17 = _ := f17
    simp only [List.getD_cons_zero, List.getD_cons_succ, canonP, f17]
    clear f17
    simp only [Oper.gives]
    go_simp
    exact ⟨is_mk _ _, Grow.refl _⟩
  case o22 =>
    intro vals wq hRq hpq
    obtain ⟨f17, _⟩ := hpq
    replace f17 : vals 17 = _ := f17
    simp only [List.getD_cons_zero, List.getD_cons_succ, canonP, f17]
    clear f17
    simp only [Oper.gives]
    go_simp
    exact ⟨is_mk _ _, Grow.refl _⟩
  case o23 =>
    intro vals wq hRq hpq
    obtain ⟨f17, f21, f22, _⟩ := hpq
    replace f17 : vals 17 = _ := f17
    replace f21 : vals 21 = _ := f21
    replace f22 : vals 22 = _ := f22
    simp only [List.getD_cons_zero, List.getD_cons_succ, canonP, f17, f21, f22]
    clear f17 f21 f22
    simp only [Oper.gives]
    go_simp
    exact ⟨is_mk _ _, Grow.refl _⟩
  case o24 =>
    intro vals wq hRq hpq
    obtain ⟨f17, f20, f23, _⟩ := hpq
    replace f17 : vals 17 = _ := f17
    replace f20 : vals 20 = _ := f20
    replace f23 : vals 23 = _ := f23
    simp only [List.getD_cons_zero, List.getD_cons_succ, canonP, f17, f20, f23]
    clear f17 f20 f23
    simp only [Oper.gives]
    go_simp
    exact ⟨row_new wq [⟨A, k, c, bs.take k⟩, none_, ⟨X, n - k, c - k, bs.drop k⟩] (by intro p hp; simp only [List.mem_cons, List.not_mem_nil, or_false] at hp; have e := Grow.ext hRq; rcases hp with rfl | rfl | rfl; exact P1.out.ext e; exact none_ok _; exact P2.out.ext e), Grow.alloc _ _⟩
  case o25 =>
    intro vals wq hRq hpq
    obtain ⟨f17, f24, _⟩ := hpq
    replace f17 : vals 17 = _ := f17
    simp only [List.getD_cons_zero, List.getD_cons_succ, canonP, f17]
    clear f17
    simp only [Oper.gives]
    go_simp
    exact sum_gives [⟨A, k, c, bs.take k⟩, none_, ⟨X, n - k, c - k, bs.drop k⟩] _ _ _ (T1.out.ext (Grow.ext hRq)) f24 (by simp) (by simp [none_]; omega) (by rw [HC.out])
  case o26 =>
    intro vals wq hRq hpq
    obtain ⟨f17, _⟩ := hpq
    replace f17 : vals 17 = _ := f17
    simp only [List.getD_cons_zero, List.getD_cons_succ, canonP, f17]
    clear f17
    simp only [Oper.gives]
    go_simp
    exact ⟨is_mk _ _, Grow.refl _⟩
  case o27 =>
    intro vals wq hRq hpq
    obtain ⟨f17, f25, f26, _⟩ := hpq
    replace f17 : vals 17 = _ := f17
    replace f25 : vals 25 = _ := f25
    replace f26 : vals 26 = _ := f26
    simp only [List.getD_cons_zero, List.getD_cons_succ, canonP, f17, f25, f26]
    clear f17 f25 f26
    simp only [Oper.gives]
    go_simp
    exact ⟨is_mk _ _, Grow.refl _⟩
  case o28 =>
    intro vals wq hRq hpq
    obtain ⟨f17, f27, _⟩ := hpq
    replace f17 : vals 17 = _ := f17
    replace f27 : vals 27 = _ := f27
    simp only [List.getD_cons_zero, List.getD_cons_succ, canonP, f17, f27]
    clear f17 f27
    simp only [Oper.gives]
    go_simp
    exact ⟨is_mk _ _, Grow.refl _⟩
  case o29 =>
    intro vals wq hRq hpq
    obtain ⟨f0, f1, f2, f3, f4, f5, f6, f7, f8, f9, f10, f11, f12, f13, f14, f15, f16, f17, f18, f19, f20, f21, f22, f23, f24, f25, f26, f27, f28, _⟩ := hpq
    replace f0 : vals 0 = _ := f0
    replace f1 : vals 1 = _ := f1
    replace f2 : vals 2 = _ := f2
    replace f3 : vals 3 = _ := f3
    replace f4 : vals 4 = _ := f4
    replace f5 : vals 5 = _ := f5
    replace f7 : vals 7 = _ := f7
    replace f8 : vals 8 = _ := f8
    replace f9 : vals 9 = _ := f9
    replace f10 : vals 10 = _ := f10
    replace f11 : vals 11 = _ := f11
    replace f13 : vals 13 = _ := f13
    replace f14 : vals 14 = _ := f14
    replace f15 : vals 15 = _ := f15
    replace f16 : vals 16 = _ := f16
    replace f17 : vals 17 = _ := f17
    replace f18 : vals 18 = _ := f18
    replace f19 : vals 19 = _ := f19
    replace f20 : vals 20 = _ := f20
    replace f21 : vals 21 = _ := f21
    replace f22 : vals 22 = _ := f22
    replace f23 : vals 23 = _ := f23
    replace f25 : vals 25 = _ := f25
    replace f26 : vals 26 = _ := f26
    replace f27 : vals 27 = _ := f27
    replace f28 : vals 28 = _ := f28
    simp only [List.getD_cons_zero, List.getD_cons_succ, canonP, f0, f1, f2, f3, f4, f5, f7, f8, f9, f10, f11, f13, f14, f15, f16, f17, f18, f19, f20, f21, f22, f23, f25, f26, f27, f28]
    clear f0 f1 f2 f3 f4 f5 f7 f8 f9 f10 f11 f13 f14 f15 f16 f17 f18 f19 f20 f21 f22 f23 f25 f26 f27 f28
    simp only [Oper.gives]
    go_simp
    exact ⟨is_mk _ _, Grow.refl _⟩
  intro vals wz hRwz hfwz
  obtain ⟨g0, g1, g2, g3, g4, g5, g6, g7, g8, g9, g10, g11, g12, g13, g14, g15, g16, g17, g18, g19, g20, g21, g22, g23, g24, g25, g26, g27, g28, g29, -⟩ := hfwz
  replace g0 : vals 0 = _ := g0
  replace g1 : vals 1 = _ := g1
  replace g2 : vals 2 = _ := g2
  replace g3 : vals 3 = _ := g3
  replace g4 : vals 4 = _ := g4
  replace g5 : vals 5 = _ := g5
  replace g7 : vals 7 = _ := g7
  replace g8 : vals 8 = _ := g8
  replace g9 : vals 9 = _ := g9
  replace g10 : vals 10 = _ := g10
  replace g11 : vals 11 = _ := g11
  replace g13 : vals 13 = _ := g13
  replace g14 : vals 14 = _ := g14
  replace g15 : vals 15 = _ := g15
  replace g16 : vals 16 = _ := g16
  replace g17 : vals 17 = _ := g17
  replace g18 : vals 18 = _ := g18
  replace g19 : vals 19 = _ := g19
  replace g20 : vals 20 = _ := g20
  replace g21 : vals 21 = _ := g21
  replace g22 : vals 22 = _ := g22
  replace g23 : vals 23 = _ := g23
  replace g25 : vals 25 = _ := g25
  replace g26 : vals 26 = _ := g26
  replace g27 : vals 27 = _ := g27
  replace g28 : vals 28 = _ := g28
  replace g29 : vals 29 = _ := g29
  simp only [canonP, Act.put, List.setIfInBounds_toArray, List.set_cons_succ, List.set_cons_zero, g0, g1, g2, g3, g4, g5, g7, g8, g9, g10, g11, g13, g14, g15, g16, g17, g18, g19, g20, g21, g22, g23, g25, g26, g27, g28, g29]
  clear g0 g1 g2 g3 g4 g5 g6 g7 g8 g9 g10 g11 g12 g13 g14 g15 g16 g17 g18 g19 g20 g21 g22 g23 g24 g25 g26 g27 g28 g29
  go_wp2_with fail
  go_ret
  exact ⟨rfl, HB1.out.trans (Below.mono (show Below W1.heap.size W1 wz from Grow.trans _ _ _ (show Grow W1 W1.drew from (Below.refl _ _).drew) hRwz) HB1.out.size)⟩

set_option maxHeartbeats 1000000 in
theorem pieces_out (A : Option Addr) (n c : Nat) (k : Int) (w : World) (ht : Tab w) (hc : n ≤ 140737488351232) (h : 20000 < n ∨ k < 0 ∨ (n : Int) < k) :
    Calls Tryd.prog 8 #[.slice A n c, .int .i64 k] w fun e w' => e = .returned (.bool true) ∧ Below w.heap.size w w' := by
  have HT := Lib.hid ht
  clear ht
  by_cases h1 : 20000 < n
  · clear h
    go_enter Tryd.func8, Tryd.ntmps8
    go_wp2_with fail
    refine (awake_any _ HT.out).mono ?_
    rintro e w1 ⟨rfl, hb⟩
    have HB := Lib.hid hb
    clear hb
    go_wp2_with fail
    go_ret
    exact ⟨rfl, HB.out⟩
  by_cases h2 : k < 0
  · clear h
    go_enter Tryd.func8, Tryd.ntmps8
    go_wp2_with fail
    refine (awake_any _ HT.out).mono ?_
    rintro e w1 ⟨rfl, hb⟩
    have HB := Lib.hid hb
    clear hb
    go_wp2_with fail
    go_ret
    exact ⟨rfl, HB.out⟩
  · have h3 : (n : Int) < k := by omega
    clear h
    go_enter Tryd.func8, Tryd.ntmps8
    go_wp2_with fail
    refine (awake_any _ HT.out).mono ?_
    rintro e w1 ⟨rfl, hb⟩
    have HB := Lib.hid hb
    clear hb
    go_wp2_with fail
    go_ret
    exact ⟨rfl, HB.out⟩
theorem pieces_all (A : Option Addr) (n c : Nat) (bs : List Nat) (k : Int) (w : World) (ht : Tab w) (hp : Bytes w A n bs) (hn : n ≤ c) (hc : c ≤ 140737488351232) :
    Calls Tryd.prog 8 #[.slice A n c, .int .i64 k] w fun e w' => e = .returned (.bool true) ∧ Below w.heap.size w w' := by
  by_cases h : 20000 < n ∨ k < 0 ∨ (n : Int) < k
  · exact pieces_out A n c k w ht (by omega) h
  · obtain ⟨m, rfl⟩ := Int.eq_ofNat_of_zero_le (show 0 ≤ k by omega)
    exact pieces_walk A n c bs m w ht hp hn hc (by omega) (by omega)

end Go.Proofs.YtcodhmfmdjopeaaDoor
