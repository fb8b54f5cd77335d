/- What a transaction tells: Seq, Open, Get, Changed, Ordered, Freed, Revoked, Void. -/
import Derived.Test.YtnogajnoghjmhaaT11a
set_option linter.unusedVariables false
set_option linter.unusedSimpArgs false
namespace Go.Proofs.Ytnogajnoghjmhaa
open Go.RowKit Go.Maps

theorem results_row_tmp {P : Program} {fn : Func} {p q : Tmp} {ty : TypeId} (h : fn.results = #[.cell p ty, .tmp q]) (tmps : Array Value) (w : World) (g : Nat) (t : TypeId) (cs : Array Value) (fr : Nat × Nat) (d : TypeDesc) (v : Value)
    (hp : tmps.getD p undef = .pointer (some ⟨g, 0, none⟩)) (hg : w.heap[g]? = some (.cells cs t fr))
    (hu : P.underlying ty = some d) (hd : (match d with | .struct _ | .array _ _ => true | _ => false) = true) (hi : (P.info? ty).map (·.size) = some cs.size) (hv : tmps.getD q undef = v) :
    (results fn tmps).run P w = .ok (.tuple #[.agg cs, v]) w := by
  have hp' : tmps[p]?.getD undef = .pointer (some ⟨g, 0, none⟩) := by simpa using hp
  have hv' : tmps[q]?.getD undef = v := by simpa using hv
  simp [results, h, hp', hv', asAddr, run_loadVar_row w g t ty cs fr d hg hu hd hi]
/-- what is told of a transaction, open or not -/
structure TV (w : World) (B : Nat) (a : PA) (N seq : Nat) (f : Bool) (s : PS) : Prop where
  c0 : w.cell? ⟨B, 0, none⟩ = some (.map (some a.c))
  c1 : w.cell? ⟨B, 1, none⟩ = some (.map (some a.o))
  c2 : w.cell? ⟨B, 2, none⟩ = some (.map (some a.f))
  c3 : w.cell? ⟨B, 3, none⟩ = some (.pointer (some ⟨a.B, 0, none⟩))
  c4 : w.cell? ⟨B, 4, none⟩ = some (.int .u32 (seq : Int))
  c5 : w.cell? ⟨B, 5, none⟩ = some (.bool f)
  lt : B < w.heap.size
  p : PIs w a N seq s
theorem TC.tv {w : World} {B : Nat} {a : PA} {N seq : Nat} {s : PS} (h : TC w B a N seq s) : TV w B a N seq false s :=
  ⟨cell_at h.obj 0, cell_at h.obj 1, cell_at h.obj 2, cell_at h.obj 3, cell_at h.obj 4, cell_at h.obj 5, (Array.getElem?_eq_some_iff.1 h.obj).1, h.p⟩
theorem TO.tv {w : World} {B : Nat} {a : PA} {tb : Nat} {o : PA} {N seq : Nat} {cr rv : Int} {s q : PS} {did : List (Int × Unit)} (h : TO w B a tb o N seq cr rv s q did) : TV w B a N seq true s :=
  ⟨cell_at h.obj 0, cell_at h.obj 1, cell_at h.obj 2, cell_at h.obj 3, cell_at h.obj 4, cell_at h.obj 5, (Array.getElem?_eq_some_iff.1 h.obj).1, h.p⟩
theorem TV.kept {w w' : World} {B : Nat} {a : PA} {N seq : Nat} {f : Bool} {s : PS} (h : TV w B a N seq f s) (ht : Touch [] w w') : TV w' B a N seq f s :=
  ⟨(ht.cell (a := ⟨B, 0, none⟩) h.lt (by simp)).trans h.c0, (ht.cell (a := ⟨B, 1, none⟩) h.lt (by simp)).trans h.c1, (ht.cell (a := ⟨B, 2, none⟩) h.lt (by simp)).trans h.c2, (ht.cell (a := ⟨B, 3, none⟩) h.lt (by simp)).trans h.c3, (ht.cell (a := ⟨B, 4, none⟩) h.lt (by simp)).trans h.c4, (ht.cell (a := ⟨B, 5, none⟩) h.lt (by simp)).trans h.c5, Nat.lt_of_lt_of_le h.lt ht.size, h.p.kept ht (by simp)⟩
theorem Touch.grow {w w' : World} (h : Touch [] w w') : Grow w w' := h.below (Nat.le_refl _) (by simp)
abbrev MadeNo (v : Value) : Prop := ∀ w : World, Calls Try.prog 31 #[v] w fun e w' => e = .returned (.bool false) ∧ w = w'
abbrev NoMade (w : World) (v : Value) : Prop := ∀ W, Touch [] w W → Calls Try.prog 31 #[v] W fun e w' => e = .returned (.bool false) ∧ W = w'
theorem seq_not {w : World} {v : Value} (hM : NoMade w v) : Calls Try.prog 28 #[v] w fun e w' => e = .returned (.int .u32 0) ∧ w = w' := by
  have HM := Lib.hid hM
  clear hM
  go_enter Try.func28, Try.ntmps28
  go_wp2_with fail
  refine (HM.out _ (Touch.refl [] _)).mono ?_
  rintro e w' ⟨rfl, rfl⟩
  go_wp2_with fail
  go_ret
  exact ⟨rfl, rfl⟩
theorem open_not {w : World} {v : Value} (hM : NoMade w v) : Calls Try.prog 13 #[v] w fun e w' => e = .returned (.bool false) ∧ w = w' := by
  have HM := Lib.hid hM
  clear hM
  go_enter Try.func13, Try.ntmps13
  go_wp2_with fail
  refine (HM.out _ (Touch.refl [] _)).mono ?_
  rintro e w' ⟨rfl, rfl⟩
  go_wp2_with fail
  go_ret
  exact ⟨rfl, rfl⟩
theorem changed_not {w : World} {v : Value} (hM : NoMade w v) : Calls Try.prog 14 #[v] w fun e w' => e = .returned (.slice none 0 0) ∧ w = w' := by
  have HM := Lib.hid hM
  clear hM
  go_enter Try.func14, Try.ntmps14
  go_wp2_with fail
  refine (HM.out _ (Touch.refl [] _)).mono ?_
  rintro e w' ⟨rfl, rfl⟩
  go_wp2_with fail
  go_ret
  exact ⟨rfl, rfl⟩
theorem ordered_not {w : World} {v : Value} (hM : NoMade w v) : Calls Try.prog 20 #[v] w fun e w' => e = .returned (.slice none 0 0) ∧ w = w' := by
  have HM := Lib.hid hM
  clear hM
  go_enter Try.func20, Try.ntmps20
  go_wp2_with fail
  refine (HM.out _ (Touch.refl [] _)).mono ?_
  rintro e w' ⟨rfl, rfl⟩
  go_wp2_with fail
  go_ret
  exact ⟨rfl, rfl⟩
theorem freed_not {w : World} {v : Value} (hM : NoMade w v) : Calls Try.prog 21 #[v] w fun e w' => e = .returned (.slice none 0 0) ∧ w = w' := by
  have HM := Lib.hid hM
  clear hM
  go_enter Try.func21, Try.ntmps21
  go_wp2_with fail
  refine (HM.out _ (Touch.refl [] _)).mono ?_
  rintro e w' ⟨rfl, rfl⟩
  go_wp2_with fail
  go_ret
  exact ⟨rfl, rfl⟩
theorem revoked_not {w : World} {v : Value} (hM : NoMade w v) : Calls Try.prog 22 #[v] w fun e w' => e = .returned (.slice none 0 0) ∧ w = w' := by
  have HM := Lib.hid hM
  clear hM
  go_enter Try.func22, Try.ntmps22
  go_wp2_with fail
  refine (HM.out _ (Touch.refl [] _)).mono ?_
  rintro e w' ⟨rfl, rfl⟩
  go_wp2_with fail
  go_ret
  exact ⟨rfl, rfl⟩
theorem void_not {w : World} {v : Value} (hM : NoMade w v) : Calls Try.prog 23 #[v] w fun e w' => e = .returned (.bool true) ∧ w = w' := by
  have HM := Lib.hid hM
  clear hM
  go_enter Try.func23, Try.ntmps23
  go_wp2_with fail
  refine (HM.out _ (Touch.refl [] _)).mono ?_
  rintro e w' ⟨rfl, rfl⟩
  go_wp2_with fail
  go_ret
  exact ⟨rfl, rfl⟩
theorem seq_is {w : World} {B : Nat} {a : PA} {N seq : Nat} {f : Bool} {s : PS} (h : TV w B a N seq f s) : Calls Try.prog 28 #[.pointer (some ⟨B, 0, none⟩)] w fun e w' => e = .returned (.int .u32 (seq : Int)) ∧ w = w' := by
  have HM := Lib.hid (made_some h.c0)
  have c4 := h.c4
  clear h
  go_enter Try.func28, Try.ntmps28
  go_wp2_with fail
  refine HM.out.mono ?_
  rintro e w' ⟨rfl, rfl⟩
  go_wp2_with fail
  go_ret
  exact ⟨rfl, rfl⟩
theorem open_is {w : World} {B : Nat} {a : PA} {N seq : Nat} {f : Bool} {s : PS} (h : TV w B a N seq f s) : Calls Try.prog 13 #[.pointer (some ⟨B, 0, none⟩)] w fun e w' => e = .returned (.bool f) ∧ w = w' := by
  have HM := Lib.hid (made_some h.c0)
  have c5 := h.c5
  clear h
  go_enter Try.func13, Try.ntmps13
  go_wp2_with fail
  refine HM.out.mono ?_
  rintro e w' ⟨rfl, rfl⟩
  go_wp2_with fail
  go_ret
  exact ⟨rfl, rfl⟩
set_option maxHeartbeats 1000000 in
theorem changed_is {w : World} {B : Nat} {a : PA} {N seq : Nat} {f : Bool} {s : PS} (h : TV w B a N seq f s) (hN : N ≤ 100000) : Calls Try.prog 14 #[.pointer (some ⟨B, 0, none⟩)] w (RowOfPost (sortI (keysA s.ch)) w) := by
  have HM := Lib.hid (made_some h.c0)
  have HP := Lib.hid h.p.ch
  have cc := h.c0
  clear h
  go_enter Try.func14, Try.ntmps14
  go_wp2_with fail
  refine HM.out.mono ?_
  rintro e w' ⟨rfl, rfl⟩
  go_wp2_with fail
  refine (risingB HP.out (by omega)).mono ?_
  rintro e w' ⟨v, rfl, hr⟩
  have HR := Lib.hid hr
  clear hr
  go_wp2_with fail
  go_ret
  exact ⟨v, rfl, HR.out⟩
set_option maxHeartbeats 1000000 in
theorem ordered_is {w : World} {B : Nat} {a : PA} {N seq : Nat} {f : Bool} {s : PS} (h : TV w B a N seq f s) (hN : N ≤ 100000) : Calls Try.prog 20 #[.pointer (some ⟨B, 0, none⟩)] w (RowOfPost (sortI (keysA s.od)) w) := by
  have HM := Lib.hid (made_some h.c0)
  have HP := Lib.hid h.p.od
  have cc := h.c1
  clear h
  go_enter Try.func20, Try.ntmps20
  go_wp2_with fail
  refine HM.out.mono ?_
  rintro e w' ⟨rfl, rfl⟩
  go_wp2_with fail
  refine (risingU HP.out (by omega)).mono ?_
  rintro e w' ⟨v, rfl, hr⟩
  have HR := Lib.hid hr
  clear hr
  go_wp2_with fail
  go_ret
  exact ⟨v, rfl, HR.out⟩
set_option maxHeartbeats 1000000 in
theorem freed_is {w : World} {B : Nat} {a : PA} {N seq : Nat} {f : Bool} {s : PS} (h : TV w B a N seq f s) (hN : N ≤ 100000) : Calls Try.prog 21 #[.pointer (some ⟨B, 0, none⟩)] w (RowOfPost (sortI (keysA s.fr)) w) := by
  have HM := Lib.hid (made_some h.c0)
  have HP := Lib.hid h.p.fr
  have cc := h.c2
  clear h
  go_enter Try.func21, Try.ntmps21
  go_wp2_with fail
  refine HM.out.mono ?_
  rintro e w' ⟨rfl, rfl⟩
  go_wp2_with fail
  refine (risingU HP.out (by omega)).mono ?_
  rintro e w' ⟨v, rfl, hr⟩
  have HR := Lib.hid hr
  clear hr
  go_wp2_with fail
  go_ret
  exact ⟨v, rfl, HR.out⟩
set_option maxHeartbeats 1000000 in
theorem revoked_is {w : World} {B : Nat} {a : PA} {N seq : Nat} {f : Bool} {s : PS} (h : TV w B a N seq f s) (hN : N ≤ 100000) : Calls Try.prog 22 #[.pointer (some ⟨B, 0, none⟩)] w (RowOfPost s.rv w) := by
  have HM := Lib.hid (made_some h.c0)
  have HH := Lib.hid h
  clear h
  go_enter Try.func22, Try.ntmps22
  go_upto_region 3 with (fail)
  refine HM.out.mono ?_
  rintro e w' ⟨rfl, rfl⟩
  go_upto_region 3 with (fail)
  refine revoked_reg3 B a.B a.m N seq s.rv w (Lib.hid ⟨HH.out.lt, HH.out.c3⟩) (Lib.hid ⟨HH.out.lt, HH.out.c4⟩) (Lib.hid HH.out.p.rv) hN _ _ _ _ _ _ _ _ _ _ _ _ _ _ _ _ (Lib.hid ?hk)
  intro u6 u7 u8 u9 u10 u11 u12 u13 u14 wz v h1 h2 h3
  have H1 := Lib.hid h1
  have H2 := Lib.hid h2
  have H3 := Lib.hid h3
  clear h1 h2 h3
  go_wp2_with fail
  go_ret
  exact ⟨v, rfl, H1.out, H2.out.grow, H3.out⟩
theorem wpList_mapLen {α : Type} {K : EK α} {w : World} {ops : Array Oper} {rest : List Oper} {o : Oper} {a : Act} {Q : Exit → Act → World → Prop} (m : Operand) (t e : TypeId) (hop : o.op = Op.call { callee := Callee.builtin Builtin.len, args := #[m], argTypes := #[t] }) (hg : o.guard = none) (ht : Try.prog.underlying t = some (.map 3 e)) (b N : Nat) (l : List (Int × α)) (hm : a.eval m = .map (some b)) (h : MapIs w K b N l)
    (hK : wpList Try.prog ops Q rest (a.put o.dst (.int .i64 (l.length : Int))) w) : wpList Try.prog ops Q (o :: rest) a w := by
  obtain ⟨D, hown, hA, hle⟩ := h
  refine wpList_len_own w hg m t hop 3 e ht K.elem b N D hm hown ?_
  rw [hA.size]; exact hK
def PS.void (s : PS) : Bool := ((s.ch.length : Int) == 0) && (((s.od.length : Int) == 0) && (((s.fr.length : Int) == 0) && ((s.rv.length : Int) == 0)))
set_option maxHeartbeats 1000000 in
theorem void_is0 {w : World} {B : Nat} {a : PA} {N seq : Nat} {f : Bool} {s : PS} (h : TV w B a N seq f s) (h0 : ((s.ch.length : Int) == 0) = false) : Calls Try.prog 23 #[.pointer (some ⟨B, 0, none⟩)] w fun e w' => e = .returned (.bool false) ∧ w = w' := by
  have HM := Lib.hid (made_some h.c0)
  have HP := Lib.hid h.p
  have c0 := h.c0
  have l0 := fun ty => h.p.ch.len Try.underlying60 ty
  clear h
  go_enter Try.func23, Try.ntmps23
  go_wp2_with fail
  refine HM.out.mono ?_
  rintro e w' ⟨rfl, rfl⟩
  go_wp2_with fail
  go_ret
  exact ⟨rfl, rfl⟩
set_option maxHeartbeats 1000000 in
theorem void_is1 {w : World} {B : Nat} {a : PA} {N seq : Nat} {f : Bool} {s : PS} (h : TV w B a N seq f s) (h0 : ((s.ch.length : Int) == 0) = true) (h1 : ((s.od.length : Int) == 0) = false) : Calls Try.prog 23 #[.pointer (some ⟨B, 0, none⟩)] w fun e w' => e = .returned (.bool false) ∧ w = w' := by
  have HM := Lib.hid (made_some h.c0)
  have HP := Lib.hid h.p
  have c0 := h.c0
  have l0 := fun ty => h.p.ch.len Try.underlying60 ty
  have c1 := h.c1
  have l1 := fun ty => h.p.od.len Try.underlying61 ty
  clear h
  go_enter Try.func23, Try.ntmps23
  go_wp2_with fail
  refine HM.out.mono ?_
  rintro e w' ⟨rfl, rfl⟩
  go_wp2_with fail
  go_ret
  exact ⟨rfl, rfl⟩
set_option maxHeartbeats 1000000 in
theorem void_is2 {w : World} {B : Nat} {a : PA} {N seq : Nat} {f : Bool} {s : PS} (h : TV w B a N seq f s) (h0 : ((s.ch.length : Int) == 0) = true) (h1 : ((s.od.length : Int) == 0) = true) (h2 : ((s.fr.length : Int) == 0) = false) : Calls Try.prog 23 #[.pointer (some ⟨B, 0, none⟩)] w fun e w' => e = .returned (.bool false) ∧ w = w' := by
  have HM := Lib.hid (made_some h.c0)
  have HP := Lib.hid h.p
  have c0 := h.c0
  have l0 := fun ty => h.p.ch.len Try.underlying60 ty
  have c1 := h.c1
  have l1 := fun ty => h.p.od.len Try.underlying61 ty
  have c2 := h.c2
  have l2 := fun ty => h.p.fr.len Try.underlying61 ty
  clear h
  go_enter Try.func23, Try.ntmps23
  go_wp2_with fail
  refine HM.out.mono ?_
  rintro e w' ⟨rfl, rfl⟩
  go_wp2_with fail
  go_ret
  exact ⟨rfl, rfl⟩
set_option maxHeartbeats 1000000 in
theorem void_is3 {w : World} {B : Nat} {a : PA} {N seq : Nat} {f : Bool} {s : PS} (h : TV w B a N seq f s) (h0 : ((s.ch.length : Int) == 0) = true) (h1 : ((s.od.length : Int) == 0) = true) (h2 : ((s.fr.length : Int) == 0) = true) (h3 : ((s.rv.length : Int) == 0) = false) : Calls Try.prog 23 #[.pointer (some ⟨B, 0, none⟩)] w fun e w' => e = .returned (.bool false) ∧ w = w' := by
  have HM := Lib.hid (made_some h.c0)
  have HP := Lib.hid h.p
  have c0 := h.c0
  have l0 := fun ty => h.p.ch.len Try.underlying60 ty
  have c1 := h.c1
  have l1 := fun ty => h.p.od.len Try.underlying61 ty
  have c2 := h.c2
  have l2 := fun ty => h.p.fr.len Try.underlying61 ty
  have c3 := h.c3
  clear h
  go_enter Try.func23, Try.ntmps23
  go_wp2_with fail
  refine HM.out.mono ?_
  rintro e w' ⟨rfl, rfl⟩
  go_wp2_with fail
  refine (rv_len HP.out.rv).mono ?_
  rintro e w' ⟨rfl, rfl⟩
  go_wp2_with fail
  go_ret
  exact ⟨rfl, rfl⟩
set_option maxHeartbeats 1000000 in
theorem void_is4 {w : World} {B : Nat} {a : PA} {N seq : Nat} {f : Bool} {s : PS} (h : TV w B a N seq f s) (h0 : ((s.ch.length : Int) == 0) = true) (h1 : ((s.od.length : Int) == 0) = true) (h2 : ((s.fr.length : Int) == 0) = true) (h3 : ((s.rv.length : Int) == 0) = true) : Calls Try.prog 23 #[.pointer (some ⟨B, 0, none⟩)] w fun e w' => e = .returned (.bool true) ∧ w = w' := by
  have HM := Lib.hid (made_some h.c0)
  have HP := Lib.hid h.p
  have c0 := h.c0
  have l0 := fun ty => h.p.ch.len Try.underlying60 ty
  have c1 := h.c1
  have l1 := fun ty => h.p.od.len Try.underlying61 ty
  have c2 := h.c2
  have l2 := fun ty => h.p.fr.len Try.underlying61 ty
  have c3 := h.c3
  clear h
  go_enter Try.func23, Try.ntmps23
  go_wp2_with fail
  refine HM.out.mono ?_
  rintro e w' ⟨rfl, rfl⟩
  go_wp2_with fail
  refine (rv_len HP.out.rv).mono ?_
  rintro e w' ⟨rfl, rfl⟩
  go_wp2_with fail
  go_ret
  exact ⟨rfl, rfl⟩
theorem void_is {w : World} {B : Nat} {a : PA} {N seq : Nat} {f : Bool} {s : PS} (h : TV w B a N seq f s) : Calls Try.prog 23 #[.pointer (some ⟨B, 0, none⟩)] w fun e w' => e = .returned (.bool s.void) ∧ w = w' := by
  unfold PS.void
  rcases Bool.eq_false_or_eq_true ((s.ch.length : Int) == 0) with h0 | h0
  rotate_left
  · simp only [h0, Bool.false_and, Bool.and_false, Bool.true_and]
    exact void_is0 h h0
  rcases Bool.eq_false_or_eq_true ((s.od.length : Int) == 0) with h1 | h1
  rotate_left
  · simp only [h0, h1, Bool.false_and, Bool.and_false, Bool.true_and]
    exact void_is1 h h0 h1
  rcases Bool.eq_false_or_eq_true ((s.fr.length : Int) == 0) with h2 | h2
  rotate_left
  · simp only [h0, h1, h2, Bool.false_and, Bool.and_false, Bool.true_and]
    exact void_is2 h h0 h1 h2
  rcases Bool.eq_false_or_eq_true ((s.rv.length : Int) == 0) with h3 | h3
  rotate_left
  · simp only [h0, h1, h2, h3, Bool.false_and, Bool.and_false, Bool.true_and]
    exact void_is3 h h0 h1 h2 h3
  · simp only [h0, h1, h2, h3, Bool.and_self]
    exact void_is4 h h0 h1 h2 h3
end Go.Proofs.Ytnogajnoghjmhaa
