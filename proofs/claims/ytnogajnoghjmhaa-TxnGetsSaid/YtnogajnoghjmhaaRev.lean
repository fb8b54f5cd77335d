/- A table of records in memory: keys that are structs; the plain side of a set. -/
import Derived.Test.YtnogajnoghjmhaaRows
import Derived.Test.YtnogajnoghjmhaaOps
import Derived.WalkKit
import Derived.WalkSpells
import Derived.WalkLawsBesides
import Derived.Lib.Hide
import Derived.Deep.QuietTactic
import Derived.BigQuiet
import Derived.IntWalk
import Derived.Maps.RangeWalk
import Derived.Maps.OwnSet
import Derived.DeepKeys4
import Derived.Laws.Cover3
import Derived.Deep.WholeRow
import Derived.Test.YtnogajnoghjmhaaSort
set_option linter.unusedVariables false
set_option linter.unusedSimpArgs false
namespace Go.Proofs.Ytnogajnoghjmhaa.Rev
open Go.RowKit Go.Maps

/-- a record: its block, its number -/
abbrev Rc := Int × Nat
def RcOk (r : Rc) : Prop := -9223372036854775808 ≤ r.1 ∧ r.1 ≤ 9223372036854775807 ∧ r.2 < 4294967296
def kv (r : Rc) : Value := .agg #[.int .i64 r.1, .int .u32 (r.2 : Int)]
def kl (r : Rc) : Lit := .string (keyBytes [.int .i64 r.1, .int .u32 (r.2 : Int)])
theorem laidOut0 : laidOutB Try.prog = true := by kernel_rfl
theorem keyed : Keyed Try.prog 90 := Keyed.of_law (deep_law_laid laidOut0 (m := 2) (by omega) (of_decide_eq_true (by kernel_rfl)) (by kernel_rfl) (by rw [Try.underlying90]))
theorem keyType60 : Try.prog.keyType 90 = true := by kernel_rfl
theorem cells60 : Try.prog.cellsOf 90 = 2 := by kernel_rfl
theorem wf_i64 {a : Int} (h1 : -9223372036854775808 ≤ a) (h2 : a ≤ 9223372036854775807) : (Lit.int .i64 a).wf = true := by
  simp [Lit.wf, IntKind.min, IntKind.max, IntKind.signed, IntKind.bits]; omega
theorem wf_u32 {a : Nat} (h : a < 4294967296) : (Lit.int .u32 (a : Int)).wf = true := by
  simp [Lit.wf, IntKind.min, IntKind.max, IntKind.signed, IntKind.bits]; omega
theorem lits60 (n : Nat) (c0 c1 : Value) : Try.prog.keyLits (n + 2) 90 [c0, c1] = ((Try.prog.keyLits (n + 1) 3 [c0]).bind fun a => (Try.prog.keyLits (n + 1) 22 [c1]).bind fun b => some (a ++ b)) := by
  conv => lhs; unfold Program.keyLits
  rw [Try.underlying90]
  simp [cells60]
  rw [show Try.prog.cellsOf 3 = 1 by kernel_rfl, show Try.prog.cellsOf 22 = 1 by kernel_rfl]
  simp only [List.take_succ_cons, List.take_zero]
  generalize Try.prog.keyLits (n + 1) 3 [c0] = o0
  generalize Try.prog.keyLits (n + 1) 22 [c1] = o1
  cases o0 <;> cases o1 <;> simp
theorem keyOf_kv (r : Rc) (h : RcOk r) : keyOf Try.prog 90 (kv r) = some (kl r) := by
  obtain ⟨h1, h2, h3⟩ := h
  have w1 := wf_i64 h1 h2
  have w2 := wf_u32 h3
  unfold keyOf
  rw [Try.underlying90]
  simp only [keyType60, Bool.true_and]
  rw [if_pos (by show (kv r).formed _ _ = true; unfold kv Value.formed; rw [Try.underlying90]; simp [cells60])]
  obtain ⟨n, hn⟩ : ∃ n, Try.prog.types.size + 1 = n + 2 := ⟨Try.prog.types.size - 1, by have : 1 ≤ Try.prog.types.size := of_decide_eq_true (by kernel_rfl); omega⟩
  rw [hn]
  show ((Try.prog.keyLits (n + 2) 90 [.int .i64 r.1, .int .u32 (r.2 : Int)]).map fun ls => Lit.string (keyBytes ls)) = some (kl r)
  rw [lits60]
  simp [Program.keyLits, Try.underlying3, Try.underlying22, w1, w2, kl]
theorem lits_int {n : Nat} {q : IntKind} {t : TypeId} {c : Value} {ls : List Lit} (ht : Try.prog.underlying t = some (.int q)) (h : Try.prog.keyLits (n + 1) t [c] = some ls) : ∃ z, c = .int q z ∧ (Lit.int q z).wf = true ∧ ls = [.int q z] := by
  unfold Program.keyLits at h
  rw [ht] at h
  cases c <;> simp at h
  obtain ⟨⟨rfl, w⟩, rfl⟩ := h
  exact ⟨_, rfl, w, rfl⟩
set_option maxRecDepth 100000 in
theorem keyOf_inv {key : Value} {l : Lit} (h : keyOf Try.prog 90 key = some l) : ∃ r, RcOk r ∧ key = kv r ∧ l = kl r := by
  have h0 := h
  unfold keyOf at h
  rw [Try.underlying90] at h
  simp only [keyType60, Bool.true_and] at h
  split at h
  · rename_i hf
    obtain ⟨n, hn⟩ : ∃ n, Try.prog.types.size + 1 = n + 2 := ⟨Try.prog.types.size - 1, by have : 1 ≤ Try.prog.types.size := of_decide_eq_true (by kernel_rfl); omega⟩
    rw [hn] at h
    cases key <;> simp [Value.formed, Try.underlying90, cells60] at hf
    rename_i cs
    obtain ⟨l'⟩ := cs
    match l', hf with
    | [c0, c1], _ =>
      rw [show (Value.agg { toList := [c0, c1] }).cells.toList = [c0, c1] from rfl, lits60] at h
      rw [Option.map_eq_some_iff] at h
      obtain ⟨ls, h, rfl⟩ := h
      rw [Option.bind_eq_some_iff] at h
      obtain ⟨x1, e1, h⟩ := h
      rw [Option.bind_eq_some_iff] at h
      obtain ⟨x2, e2, h⟩ := h
      obtain ⟨a, rfl, w1, rfl⟩ := lits_int Try.underlying3 e1
      obtain ⟨b, rfl, w2, rfl⟩ := lits_int Try.underlying22 e2
      cases h
      have b1 : -9223372036854775808 ≤ a ∧ a ≤ 9223372036854775807 := by simpa [Lit.wf, IntKind.min, IntKind.max, IntKind.signed, IntKind.bits] using w1
      have b2 : 0 ≤ b ∧ b < 4294967296 := by simp [Lit.wf, IntKind.min, IntKind.max, IntKind.signed, IntKind.bits] at w2; omega
      refine ⟨(a, b.toNat), ⟨b1.1, b1.2, by show b.toNat < _; omega⟩, ?_, ?_⟩
      · unfold kv; rw [show (((a, b.toNat) : Rc).2 : Int) = b by show ((b.toNat : Nat) : Int) = b; omega]
      · unfold kl; rw [show (((a, b.toNat) : Rc).2 : Int) = b by show ((b.toNat : Nat) : Int) = b; omega]; simp
  · cases h
theorem kl_inj {r s : Rc} (hr : RcOk r) (hs : RcOk s) (h : kl r = kl s) : r = s := by
  have := keyed.inj (keyOf_kv r hr) (by rw [h]; exact keyOf_kv s hs)
  unfold kv at this
  simp only [Value.agg.injEq, Array.mk.injEq, List.cons.injEq, Value.int.injEq, and_true, true_and] at this
  exact Prod.ext this.1 (by omega)
theorem kl_key (r : Rc) : WideAt.IsKeyLit (kl r) := trivial
theorem kl_same {r s : Rc} (hr : RcOk r) (hs : RcOk s) : (kl r).sameKey (kl s) = decide (r = s) := by
  by_cases h : r = s
  · subst h; rw [decide_eq_true rfl]; simp [kl, Lit.sameKey]
  · rw [decide_eq_false h]
    exact sameKey_ne (fun e => h (kl_inj hr hs e))
#print axioms kl_same
end Go.Proofs.Ytnogajnoghjmhaa.Rev
/- revoke.Table: New, made, ask, Add, Cancel, Len: the walks. -/
set_option linter.unusedVariables false
set_option linter.unusedSimpArgs false
namespace Go.Proofs.Ytnogajnoghjmhaa.Rev
open Go.RowKit Go.Maps

/-- a map reads as a set of records -/
structure SetOf (D : DataW Unit) (m : List Rc) : Prop where
  nodup : m.Nodup
  ok : ∀ r ∈ m, RcOk r
  has : ∀ r, RcOk r → Maps.has D (kl r) = decide (r ∈ m)
  size : Maps.size D = m.length
def delR (m : List Rc) (r : Rc) : List Rc := m.filter (fun s => decide (s ≠ r))
def insR (m : List Rc) (r : Rc) : List Rc := delR m r ++ [r]
theorem delR_mem {m : List Rc} {r s : Rc} : s ∈ delR m r ↔ s ∈ m ∧ s ≠ r := by unfold delR; simp
theorem insR_mem {m : List Rc} {r s : Rc} : s ∈ insR m r ↔ s ∈ m ∨ s = r := by
  unfold insR; rw [List.mem_append, delR_mem, List.mem_singleton]
  by_cases h : s = r <;> simp [h]
theorem delR_length {m : List Rc} {r : Rc} (hn : m.Nodup) : (delR m r).length + (if r ∈ m then 1 else 0) = m.length := by
  induction m with
  | nil => simp [delR]
  | cons a m ih =>
    have h := List.nodup_cons.1 hn
    have ih := ih h.2
    by_cases e : a = r
    · subst e
      have : delR (a :: m) a = delR m a := by unfold delR; simp
      rw [this, if_pos (by simp)]
      rw [if_neg h.1] at ih
      simp; omega
    · have : delR (a :: m) r = a :: delR m r := by unfold delR; simp [e]
      rw [this]
      by_cases hm : r ∈ m
      · rw [if_pos hm] at ih; rw [if_pos (by simp [hm])]; simp; omega
      · rw [if_neg hm] at ih; rw [if_neg (by simp [hm]; exact fun h => e h.symm)]; simp; omega
theorem SetOf.empty : SetOf (.map []) [] := ⟨List.nodup_nil, fun r h => (by cases h), fun r _ => rfl, rfl⟩
theorem SetOf.put {D : DataW Unit} {m : List Rc} (h : SetOf D m) (ht : Tidy D) {r : Rc} (hr : RcOk r) (u : DataW Unit) : SetOf (D.put (kl r) u) (insR m r) where
  nodup := by
    unfold insR
    rw [List.nodup_append]
    refine ⟨h.nodup.filter _, by simp, fun a ha b hb => ?_⟩
    rw [List.mem_singleton.1 hb]
    exact (delR_mem.1 ha).2
  ok := fun s hs => by rcases insR_mem.1 hs with h1 | h1; exact h.ok s h1; rw [h1]; exact hr
  has := fun s hs => by
    by_cases e : s = r
    · subst e; rw [has_put_same ht.isMap (kl_key s), decide_eq_true (insR_mem.2 (.inr rfl))]
    · rw [has_put_other (fun c => e (kl_inj hs hr c)), h.has s hs]
      congr 1
      rw [insR_mem]; simp [e]
  size := by
    rw [size_put ht, h.has r hr, h.size]
    have := delR_length (r := r) h.nodup
    unfold insR
    rw [List.length_append]
    by_cases hm : r ∈ m
    · rw [if_pos hm] at this; simp [hm]; omega
    · rw [if_neg hm] at this; simp [hm]; omega
theorem SetOf.del {D : DataW Unit} {m : List Rc} (h : SetOf D m) (ht : Tidy D) {r : Rc} (hr : RcOk r) : SetOf (D.del (kl r)) (delR m r) where
  nodup := h.nodup.filter _
  ok := fun s hs => h.ok s (delR_mem.1 hs).1
  has := fun s hs => by
    by_cases e : s = r
    · subst e; rw [has_del_same, decide_eq_false (fun c => (delR_mem.1 c).2 rfl)]
    · rw [has_del_other (fun c => e (kl_inj hs hr c)), h.has s hs]
      congr 1
      rw [delR_mem]; simp [e]
  size := by
    have h1 := size_del (k := kl r) ht
    have h2 := delR_length (r := r) h.nodup
    rw [h.has r hr, h.size] at h1
    by_cases hm : r ∈ m
    · rw [if_pos hm] at h2; simp [hm] at h1; omega
    · rw [if_neg hm] at h2; simp [hm] at h1; omega
/-- a table of the records m; its map lies in bm; there were at most n stores -/
structure Tab (w : World) (B bm n : Nat) (m : List Rc) : Prop where
  obj : w.heap[B]? = some (.cells #[.map (some bm)] 88)
  map : ∃ D, w.ownsMap Try.prog 90 (unitElem (H := Unit)) bm n D ∧ SetOf D m
theorem Tab.cell {w : World} {B bm n : Nat} {m : List Rc} (h : Tab w B bm n m) : w.cell? ⟨B, 0, none⟩ = some (.map (some bm)) := cell_at h.obj 0
theorem Tab.lt {w : World} {B bm n : Nat} {m : List Rc} (h : Tab w B bm n m) : B < w.heap.size ∧ bm < w.heap.size := by
  obtain ⟨D, h1, _⟩ := h.map
  exact ⟨(Array.getElem?_eq_some_iff.1 h.obj).1, h1.lt⟩
theorem Tab.ne {w : World} {B bm n : Nat} {m : List Rc} (h : Tab w B bm n m) : B ≠ bm := by
  obtain ⟨D, ⟨es, clock, hb, _⟩, _⟩ := h.map
  intro e
  have := h.obj
  rw [e, hb] at this
  cases this
theorem Tab.kept {w w' : World} {B bm n : Nat} {m : List Rc} (h : Tab w B bm n m) {T : List Nat} (ht : Touch T w w') (h1 : B ∉ T) (h2 : bm ∉ T) : Tab w' B bm n m := by
  refine ⟨(ht.block B h.lt.1 h1).trans h.obj, ?_⟩
  obtain ⟨D, ⟨es, clock, hb, hr⟩, hs⟩ := h.map
  exact ⟨D, ⟨es, clock, (ht.block bm h.lt.2 h2).trans hb, hr⟩, hs⟩
theorem neq48 (r : Option Nat) (w : World) : (binOp .neq 86 (.map r) (.map none)).run Try.prog w = .ok (.bool (!r.isNone)) w := run_neq_map_nil w _ _ _ r Try.underlying86
theorem made_yes {w : World} {B bm n : Nat} {m : List Rc} (h : Tab w B bm n m) : Calls Try.prog 50 #[.pointer (some ⟨B, 0, none⟩)] w fun e w' => e = .returned (.bool true) ∧ w = w' := by
  have c0 := h.cell
  have hm := neq48
  clear h
  go_enter Try.func50, Try.ntmps50
  go_wp2
  go_ret
  exact ⟨rfl, rfl⟩
theorem made_nil (w : World) : Calls Try.prog 50 #[.pointer none] w fun e w' => e = .returned (.bool false) ∧ w = w' := by
  have hm := neq48
  go_enter Try.func50, Try.ntmps50
  go_wp2
  go_ret
  exact ⟨rfl, rfl⟩
theorem made_empty {w : World} {B : Nat} (h : w.cell? ⟨B, 0, none⟩ = some (.map none)) : Calls Try.prog 50 #[.pointer (some ⟨B, 0, none⟩)] w fun e w' => e = .returned (.bool false) ∧ w = w' := by
  have hm := neq48
  go_enter Try.func50, Try.ntmps50
  go_wp2
  go_ret
  exact ⟨rfl, rfl⟩
theorem new_ok (w : World) : Calls Try.prog 43 #[] w fun e w' => ∃ B bm, e = .returned (.pointer (some ⟨B, 0, none⟩)) ∧ Tab w' B bm 0 [] ∧ Grow w w' ∧ w.heap.size ≤ B ∧ w.heap.size ≤ bm := by
  have hmm := @run_makeMap Try.prog
  go_enter Try.func43, Try.ntmps43
  go_wp2
  go_ret
  refine ⟨w.heap.size + 1, w.heap.size, rfl, ⟨?_, .map [], ?_, SetOf.empty⟩, Grow.trans (Grow.alloc w _) (Grow.alloc _ _), by omega, Nat.le_refl _⟩
  · have := heap_alloc_last (w.alloc (.map #[] 0)) (.cells #[.map (some w.heap.size)] 88)
    simpa using this
  · exact (World.ownsMap_made w _ _ _).alloc _
theorem ask_ok {w : World} {B bm n : Nat} {m : List Rc} (h : Tab w B bm n m) (b : Int) : Calls Try.prog 46 #[.pointer (some ⟨B, 0, none⟩), .int .i64 b] w fun e w' => e = .returned (.int .i64 (if b < 0 then 2 else 0)) ∧ w = w' := by
  have HT := Lib.hid h
  clear h
  by_cases hb : b < 0
  · rw [if_pos hb]
    go_enter Try.func46, Try.ntmps46
    go_wp2_with fail
    refine (made_yes HT.out).mono ?_
    rintro e w' ⟨rfl, rfl⟩
    go_wp2_with fail
    go_ret
    exact ⟨rfl, rfl⟩
  · rw [if_neg hb]
    have d0 : decide (b < 0) = false := by simpa using hb
    go_enter Try.func46, Try.ntmps46
    go_wp2_with fail
    refine (made_yes HT.out).mono ?_
    rintro e w' ⟨rfl, rfl⟩
    go_wp2_with fail
    go_ret
    exact ⟨rfl, rfl⟩
theorem Tab.put {w w' : World} {B bm n : Nat} {m : List Rc} (h : Tab w B bm n m) {D : DataW Unit} (hw : w.ownsMap Try.prog 90 (unitElem (H := Unit)) bm n D) (hs : SetOf D m) {r : Rc} (hr : RcOk r) (hown : w'.ownsMap Try.prog 90 (unitElem (H := Unit)) bm (n + 1) (D.put (kl r) (.agg []))) (hg : w.grownBy w' (some bm)) : Tab w' B bm (n + 1) (insR m r) ∧ Touch [bm] w w' :=
  ⟨⟨(hg.block B h.lt.1 (fun e => h.ne (Option.some.inj e))).trans h.obj, _, hown, hs.put (hw.tidy keyed) hr _⟩, Touch.grown hg (fun k e => by cases e; simp)⟩
theorem Tab.del {w w' : World} {B bm n : Nat} {m : List Rc} (h : Tab w B bm n m) {D : DataW Unit} (hw : w.ownsMap Try.prog 90 (unitElem (H := Unit)) bm n D) (hs : SetOf D m) {r : Rc} (hr : RcOk r) (hown : w'.ownsMap Try.prog 90 (unitElem (H := Unit)) bm n (D.del (kl r))) (hg : w.grownBy w' (some bm)) : Tab w' B bm n (delR m r) ∧ Touch [bm] w w' :=
  ⟨⟨(hg.block B h.lt.1 (fun e => h.ne (Option.some.inj e))).trans h.obj, _, hown, hs.del (hw.tidy keyed) hr⟩, Touch.grown hg (fun k e => by cases e; simp)⟩
set_option maxHeartbeats 1000000 in
theorem add_ok {w : World} {B bm n : Nat} {m : List Rc} (h : Tab w B bm n m) (hn : n ≤ 1000000) (r : Rc) (hr : RcOk r) (h0 : 0 ≤ r.1) : Calls Try.prog 38 #[.pointer (some ⟨B, 0, none⟩), .int .i64 r.1, .int .u32 (r.2 : Int)] w fun e w' => e = .returned (.int .i64 0) ∧ Tab w' B bm (n + 1) (insR m r) ∧ Touch [bm] w w' := by
  have HT := Lib.hid h
  have c0 := h.cell
  have HR := Lib.hid hr
  obtain ⟨D, hown, hs⟩ := h.map
  have HO := Lib.hid hown
  have HS := Lib.hid hs
  have hk := keyOf_kv r hr
  unfold kv at hk
  have HK := Lib.hid hk
  have HA := Lib.hid (show (if r.1 < 0 then (2 : Int) else 0) = 0 from if_neg (by omega))
  clear h hr hown hs hk
  go_enter Try.func38, Try.ntmps38
  go_wp2_with fail
  refine (ask_ok HT.out r.1).mono ?_
  rintro e w' ⟨rfl, rfl⟩
  rw [HA.out]
  go_wp2_with (first | (at_mapUpdate; refine wpList_mapUpdate_in _ rfl _ _ _ 86 rfl 90 73 keyed Try.underlying86 _ bm n D rfl HO.out (by unfold maxLen; omega) _ _ (kl r) rfl rfl HK.out _ [] unitElem_mk ?_; intro w1 hown1 hturn1))
  have HP := Lib.hid (HT.out.put HO.out HS.out HR.out hown1 hturn1.grown)
  clear hown1 hturn1
  go_ret
  exact ⟨rfl, HP.out⟩
set_option maxHeartbeats 1000000 in
theorem add_neg {w : World} {B bm n : Nat} {m : List Rc} (h : Tab w B bm n m) (b : Int) (s : Value) (h0 : b < 0) : Calls Try.prog 38 #[.pointer (some ⟨B, 0, none⟩), .int .i64 b, s] w fun e w' => e = .returned (.int .i64 2) ∧ w = w' := by
  have HT := Lib.hid h
  have HA := Lib.hid (show (if b < 0 then (2 : Int) else 0) = 2 from if_pos h0)
  clear h
  go_enter Try.func38, Try.ntmps38
  go_wp2_with fail
  refine (ask_ok HT.out b).mono ?_
  rintro e w' ⟨rfl, rfl⟩
  rw [HA.out]
  go_wp2_with fail
  go_ret
  exact ⟨rfl, rfl⟩
set_option maxHeartbeats 1000000 in
theorem cancel_ok {w : World} {B bm n : Nat} {m : List Rc} (h : Tab w B bm n m) (r : Rc) (hr : RcOk r) (h0 : 0 ≤ r.1) : Calls Try.prog 34 #[.pointer (some ⟨B, 0, none⟩), .int .i64 r.1, .int .u32 (r.2 : Int)] w fun e w' => e = .returned (.int .i64 0) ∧ Tab w' B bm n (delR m r) ∧ Touch [bm] w w' := by
  have HT := Lib.hid h
  have c0 := h.cell
  have HR := Lib.hid hr
  obtain ⟨D, hown, hs⟩ := h.map
  have HO := Lib.hid hown
  have HS := Lib.hid hs
  have hk := keyOf_kv r hr
  unfold kv at hk
  have HK := Lib.hid hk
  have HA := Lib.hid (show (if r.1 < 0 then (2 : Int) else 0) = 0 from if_neg (by omega))
  clear h hr hown hs hk
  go_enter Try.func34, Try.ntmps34
  go_wp2_with fail
  refine (ask_ok HT.out r.1).mono ?_
  rintro e w' ⟨rfl, rfl⟩
  rw [HA.out]
  go_wp2_with (first | (at_delete; refine wpList_delete_own _ rfl _ _ 86 90 rfl 73 keyed Try.underlying86 _ bm n D rfl HO.out _ (kl r) rfl HK.out ?_; intro w1 hown1 hturn1))
  have HP := Lib.hid (HT.out.del HO.out HS.out HR.out hown1 hturn1.grown)
  clear hown1 hturn1
  go_ret
  exact ⟨rfl, HP.out⟩
set_option maxHeartbeats 1000000 in
theorem cancel_neg {w : World} {B bm n : Nat} {m : List Rc} (h : Tab w B bm n m) (b : Int) (s : Value) (h0 : b < 0) : Calls Try.prog 34 #[.pointer (some ⟨B, 0, none⟩), .int .i64 b, s] w fun e w' => e = .returned (.int .i64 2) ∧ w = w' := by
  have HT := Lib.hid h
  have HA := Lib.hid (show (if b < 0 then (2 : Int) else 0) = 2 from if_pos h0)
  clear h
  go_enter Try.func34, Try.ntmps34
  go_wp2_with fail
  refine (ask_ok HT.out b).mono ?_
  rintro e w' ⟨rfl, rfl⟩
  rw [HA.out]
  go_wp2_with fail
  go_ret
  exact ⟨rfl, rfl⟩
theorem len_ok {w : World} {B bm n : Nat} {m : List Rc} (h : Tab w B bm n m) : Calls Try.prog 41 #[.pointer (some ⟨B, 0, none⟩)] w fun e w' => e = .returned (.int .i64 (m.length : Int)) ∧ w = w' := by
  have HT := Lib.hid h
  have c0 := h.cell
  obtain ⟨D, hown, hs⟩ := h.map
  have HO := Lib.hid hown
  have HS := Lib.hid hs.size
  clear h hown hs
  go_enter Try.func41, Try.ntmps41
  go_wp2_with fail
  refine (made_yes HT.out).mono ?_
  rintro e w' ⟨rfl, rfl⟩
  go_wp2_with (first | (at_len; refine wpList_len_own _ rfl _ 86 rfl 90 73 Try.underlying86 _ bm n D rfl HO.out ?_))
  go_ret
  exact ⟨by rw [HS.out]; rfl, rfl⟩
#print axioms add_ok
end Go.Proofs.Ytnogajnoghjmhaa.Rev
/- revoke.Table: Last, Revoked: the walks. -/
set_option linter.unusedVariables false
set_option linter.unusedSimpArgs false
namespace Go.Proofs.Ytnogajnoghjmhaa.Rev
open Go.RowKit Go.Maps

/-- the greatest number of a block's records among some -/
structure LastIs (p : Rc → Prop) (b : Int) (last : Nat) (found : Bool) : Prop where
  up : ∀ r, p r → r.1 = b → r.2 ≤ last
  yes : found = true → ∃ r, p r ∧ r.1 = b ∧ r.2 = last
  no : found = false → last = 0 ∧ ∀ r, p r → r.1 ≠ b
theorem LastIs.unique {p : Rc → Prop} {b : Int} {l l' : Nat} {f f' : Bool} (h : LastIs p b l f) (h' : LastIs p b l' f') : l = l' ∧ f = f' := by
  cases f <;> cases f'
  · exact ⟨by rw [(h.no rfl).1, (h'.no rfl).1], rfl⟩
  · obtain ⟨r, h1, h2, _⟩ := h'.yes rfl; exact absurd h2 ((h.no rfl).2 r h1)
  · obtain ⟨r, h1, h2, _⟩ := h.yes rfl; exact absurd h2 ((h'.no rfl).2 r h1)
  · obtain ⟨r, h1, h2, h3⟩ := h.yes rfl
    obtain ⟨s, h4, h5, h6⟩ := h'.yes rfl
    have := h.up s h4 h5
    have := h'.up r h1 h2
    exact ⟨by omega, rfl⟩
theorem LastIs.congr {p q : Rc → Prop} {b : Int} {l : Nat} {f : Bool} (h : LastIs p b l f) (he : ∀ r, p r ↔ q r) : LastIs q b l f :=
  ⟨fun r hr => h.up r ((he r).2 hr), fun hf => by obtain ⟨r, h1, h2⟩ := h.yes hf; exact ⟨r, (he r).1 h1, h2⟩, fun hf => ⟨(h.no hf).1, fun r hr => (h.no hf).2 r ((he r).2 hr)⟩⟩
theorem LastIs.none (b : Int) : LastIs (fun _ => False) b 0 false := ⟨fun r h => h.elim, fun h => (by cases h), fun _ => ⟨rfl, fun r h => h.elim⟩⟩
/-- one more record, of the block -/
theorem LastIs.more {p : Rc → Prop} {b : Int} {l : Nat} {f : Bool} (h : LastIs p b l f) (x : Rc) (hx : x.1 = b) : LastIs (fun r => p r ∨ r = x) b (max l x.2) true where
  up := fun r hr hb => by
    rcases hr with h1 | rfl
    · have := h.up r h1 hb; omega
    · omega
  yes := fun _ => by
    cases f
    · have := (h.no rfl).1
      exact ⟨x, .inr rfl, hx, by omega⟩
    · obtain ⟨r, h1, h2, h3⟩ := h.yes rfl
      by_cases hc : l ≤ x.2
      · exact ⟨x, .inr rfl, hx, by omega⟩
      · exact ⟨r, .inl h1, h2, by omega⟩
  no := fun hf => (by cases hf)
/-- one more record, of another block -/
theorem LastIs.other {p : Rc → Prop} {b : Int} {l : Nat} {f : Bool} (h : LastIs p b l f) (x : Rc) (hx : x.1 ≠ b) : LastIs (fun r => p r ∨ r = x) b l f where
  up := fun r hr hb => by
    rcases hr with h1 | rfl
    · exact h.up r h1 hb
    · exact absurd hb hx
  yes := fun hf => by obtain ⟨r, h1, h2⟩ := h.yes hf; exact ⟨r, .inl h1, h2⟩
  no := fun hf => ⟨(h.no hf).1, fun r hr => by
    rcases hr with h1 | rfl
    · exact (h.no hf).2 r h1
    · exact hx⟩
/-- the records that have come so far -/
def Seen (m : List Rc) (left : Lit → Bool) (r : Rc) : Prop := r ∈ m ∧ left (kl r) = false
theorem seen_start {D : DataW Unit} {m : List Rc} (h : SetOf D m) (r : Rc) : False ↔ Seen m (Maps.has D) r :=
  ⟨fun f => f.elim, fun ⟨h1, h2⟩ => by rw [h.has r (h.ok r h1), decide_eq_true h1] at h2; cases h2⟩
theorem seen_end {m : List Rc} {left : Lit → Bool} (h : ∀ l, left l = false) (r : Rc) : Seen m left r ↔ r ∈ m := ⟨fun h => h.1, fun h1 => ⟨h1, h _⟩⟩
theorem seen_step {m : List Rc} {left : Lit → Bool} (hok : ∀ r ∈ m, RcOk r) {x : Rc} (hx : x ∈ m) (r : Rc) : (Seen m left r ∨ r = x) ↔ Seen m (fun z => left z && !z.sameKey (kl x)) r := by
  unfold Seen
  constructor
  · rintro (⟨h1, h2⟩ | rfl)
    · exact ⟨h1, by simp [h2]⟩
    · exact ⟨hx, by simp [kl_same (hok r hx) (hok r hx)]⟩
  · rintro ⟨h1, h2⟩
    simp only [kl_same (hok r h1) (hok x hx)] at h2
    by_cases e : r = x
    · exact .inr e
    · exact .inl ⟨h1, by simpa [e] using h2⟩
theorem kv_inv {x : Rc} {l : Lit} (h : keyOf Try.prog 90 (.agg #[.int .i64 x.1, .int .u32 (x.2 : Int)]) = some l) : RcOk x ∧ l = kl x := by
  obtain ⟨r, h1, h2, h3⟩ := keyOf_inv h
  unfold kv at h2
  simp only [Value.agg.injEq, Array.mk.injEq, List.cons.injEq, Value.int.injEq, and_true, true_and] at h2
  obtain rfl : x = r := Prod.ext h2.1 (by omega)
  exact ⟨h1, h3⟩
theorem SetOf.mem_of {D : DataW Unit} {m : List Rc} (h : SetOf D m) {x : Rc} (hx : RcOk x) {y : DataW Unit} (hat : ∀ z, D.atKey (kl x) z = y) : x ∈ m := by
  have := has_true_of_atKey hat
  rw [h.has x hx] at this
  exact of_decide_eq_true this
theorem max_cast (a b : Nat) : max (a : Int) (b : Int) = ((max a b : Nat) : Int) := by omega
def LastPost (m : List Rc) (b : Int) (w : World) (e : Ending) (w' : World) : Prop := ∃ (last : Nat) (found : Bool), e = .returned (.tuple #[.int .u32 (last : Int), .bool found]) ∧ last < 4294967296 ∧ LastIs (· ∈ m) b last found ∧ Grow w w'
/-- is a block revoked for a number? -/
def revoked (m : List Rc) (b : Int) (s : Nat) : Bool := m.any fun r => decide (r.1 = b ∧ s ≤ r.2)
theorem LastIs.revoked {m : List Rc} {b : Int} {l : Nat} {f : Bool} (h : LastIs (· ∈ m) b l f) (s : Nat) : (f && decide (s ≤ l)) = revoked m b s := by
  unfold Go.Proofs.Ytnogajnoghjmhaa.Rev.revoked
  rw [Bool.eq_iff_iff]
  simp only [Bool.and_eq_true, decide_eq_true_eq, List.any_eq_true]
  constructor
  · rintro ⟨rfl, hs⟩
    obtain ⟨r, h1, h2, h3⟩ := h.yes rfl
    exact ⟨r, h1, h2, by omega⟩
  · rintro ⟨r, h1, h2, h3⟩
    have hu := h.up r h1 h2
    cases f
    · exact absurd h2 ((h.no rfl).2 r h1)
    · exact ⟨rfl, by omega⟩
end Go.Proofs.Ytnogajnoghjmhaa.Rev
/- revoke.Table: Of: the walk. -/
set_option linter.unusedVariables false
set_option linter.unusedSimpArgs false
namespace Go.Proofs.Ytnogajnoghjmhaa.Rev
open Go.RowKit Go.Maps

theorem ranges_touch {H : Type} {P : Program} {k : TypeId} {R : Value → Option (DataW H × List MemPlace)} {w w' : World} {b r n : Nat} {D : DataW H} {left : Lit → Bool} {cnt : Nat} (h : w.ranges P k R b r n D left cnt) {T : List Nat} (ht : Touch T w w') (hb : b ∉ T) (hr : r ∉ T) : w'.ranges P k R b r n D left cnt := by
  obtain ⟨es, clock, since, seen, c0, h1, h2, h3, h4, h5, h6⟩ := h
  exact ⟨es, clock, since, seen, c0, (ht.block b (Array.getElem?_eq_some_iff.1 h1).1 hb).trans h1, h2, h3, h4, (ht.block r (Array.getElem?_eq_some_iff.1 h5).1 hr).trans h5, h6⟩
theorem info3 : (Try.prog.info? 3).map (fun i => (i.zero, i.size, i.bytes)) = some (some (.int .i64 0), 1, 8) := by kernel_rfl
theorem sorted_unique : ∀ (a b : List Int), a.Perm b → a.Pairwise (· ≤ ·) → b.Pairwise (· ≤ ·) → a = b := by
  intro a b hp ha hb
  exact List.Perm.eq_of_pairwise (le := (· ≤ ·)) (fun x y _ _ h1 h2 => by omega) ha hb hp
/-- the blocks of a number's records -/
def ofR (m : List Rc) (s : Nat) : List Int := (m.filter fun r => decide (r.2 = s)).map (·.1)
theorem ofR_mem {m : List Rc} {s : Nat} {b : Int} : b ∈ ofR m s ↔ (b, s) ∈ m := by
  unfold ofR
  rw [List.mem_map]
  constructor
  · rintro ⟨r, hr, rfl⟩
    rw [List.mem_filter] at hr
    have := of_decide_eq_true hr.2
    rw [← this]; exact hr.1
  · intro h
    exact ⟨(b, s), List.mem_filter.2 ⟨h, by simp⟩, rfl⟩
theorem ofR_nodup {m : List Rc} (h : m.Nodup) (s : Nat) : (ofR m s).Nodup := by
  unfold ofR
  rw [List.Nodup, List.pairwise_map]
  have h1 : (m.filter fun r => decide (r.2 = s)).Pairwise (· ≠ ·) := h.filter _
  refine List.Pairwise.imp_of_mem (fun {a b} ha hb hne he => hne ?_) h1
  have h2 := of_decide_eq_true (List.mem_filter.1 ha).2
  have h3 := of_decide_eq_true (List.mem_filter.1 hb).2
  exact Prod.ext he (by rw [h2, h3])
/-- what was collected -/
structure OfIs (m : List Rc) (s : Nat) (left : Lit → Bool) (zs : List Int) : Prop where
  mem : ∀ b, b ∈ zs ↔ Seen m left (b, s)
  nodup : zs.Nodup
theorem OfIs.start {D : DataW Unit} {m : List Rc} (h : SetOf D m) (s : Nat) : OfIs m s (Maps.has D) [] := ⟨fun b => by rw [← seen_start h (b, s)]; simp, List.nodup_nil⟩
theorem OfIs.other {m : List Rc} {s : Nat} {left : Lit → Bool} {zs : List Int} (h : OfIs m s left zs) (hok : ∀ r ∈ m, RcOk r) {x : Rc} (hx : x ∈ m) (hs : x.2 ≠ s) : OfIs m s (fun z => left z && !z.sameKey (kl x)) zs :=
  ⟨fun b => by rw [h.mem b, ← seen_step hok hx]; exact ⟨.inl, fun h => by rcases h with h | h; exact h; exact absurd (by rw [← h]) hs⟩, h.nodup⟩
theorem OfIs.more {m : List Rc} {s : Nat} {left : Lit → Bool} {zs : List Int} (h : OfIs m s left zs) (hok : ∀ r ∈ m, RcOk r) {x : Rc} (hx : x ∈ m) (hs : x.2 = s) (hl : left (kl x) = true) : OfIs m s (fun z => left z && !z.sameKey (kl x)) (zs ++ [x.1]) := by
  subst hs
  refine ⟨fun b => ?_, ?_⟩
  · rw [List.mem_append, List.mem_singleton, h.mem b, ← seen_step hok hx]
    constructor
    · rintro (h | h)
      · exact .inl h
      · exact .inr (by rw [h])
    · rintro (h | h)
      · exact .inl h
      · exact .inr (by rw [← h])
  · rw [List.nodup_append]
    refine ⟨h.nodup, by simp, fun a ha b hb e => ?_⟩
    rw [List.mem_singleton.1 hb] at e
    subst e
    have := ((h.mem _).1 ha).2
    rw [show ((x.1, x.2) : Rc) = x from rfl, hl] at this
    cases this
theorem OfIs.done {m : List Rc} {s : Nat} {left : Lit → Bool} {zs : List Int} (h : OfIs m s left zs) (hn : m.Nodup) (hl : ∀ l, left l = false) : sortI zs = sortI (ofR m s) := by
  have hp : zs.Perm (ofR m s) := (List.perm_ext_iff_of_nodup h.nodup (ofR_nodup hn s)).2 (fun b => by rw [h.mem b, ofR_mem, seen_end hl])
  exact sorted_unique _ _ ((sortI_perm zs).trans (hp.trans (sortI_perm _).symm)) (sortI_sorted _) (sortI_sorted _)
theorem nodup_sub : ∀ (a b : List Int), a.Nodup → (∀ x ∈ a, x ∈ b) → a.length ≤ b.length := by
  intro a
  induction a with
  | nil => intro b _ _; simp
  | cons x a ih =>
    intro b hn hs
    have h1 := List.nodup_cons.1 hn
    have hx := hs x (by simp)
    have := ih (b.erase x) h1.2 (fun y hy => (List.mem_erase_of_ne (by rintro rfl; exact h1.1 hy)).2 (hs y (by simp [hy])))
    rw [List.length_erase_of_mem hx] at this
    have := List.length_pos_of_mem hx
    simp; omega
theorem OfIs.len {m : List Rc} {s : Nat} {left : Lit → Bool} {zs : List Int} (h : OfIs m s left zs) : zs.length ≤ m.length := by
  have := nodup_sub zs (m.map (·.1)) h.nodup (fun b hb => List.mem_map.2 ⟨(b, s), ((h.mem b).1 hb).1, rfl⟩)
  rwa [List.length_map] at this
def OfPost (m : List Rc) (s : Nat) (w : World) (e : Ending) (w' : World) : Prop := ∃ v, e = .returned v ∧ IRow w' v (sortI (ofR m s)) ∧ Grow w w' ∧ ∀ g, v.ownBlock = some g → w.heap.size ≤ g
/-- a round's state -/
structure OInv (m : List Rc) (s : Nat) (D : DataW Unit) (bm n : Nat) (w : World) (left : Lit → Bool) (cnt : Nat) (zs : List Int) (v5 : Value) (wr : World) : Prop where
  rng : wr.ranges Try.prog 90 (unitElem (H := Unit)) bm w.heap.size n D left cnt
  row : IRow wr v5 zs
  is : OfIs m s left zs
  grow : Grow w wr
  vl : ∀ g, v5.ownBlock = some g → w.heap.size < g
theorem OInv.later {m : List Rc} {s : Nat} {D : DataW Unit} {bm n : Nat} {w : World} {left left' : Lit → Bool} {cnt cnt' : Nat} {zs : List Int} {v5 : Value} {wr w1 w2 : World} (h : OInv m s D bm n w left cnt zs v5 wr) (hbm : bm < w.heap.size) (hr : w1.ranges Try.prog 90 (unitElem (H := Unit)) bm w.heap.size n D left' cnt') (hg : wr.grownBy w1 (some w.heap.size)) (hi : OfIs m s left' zs) (ht : Touch [] w1 w2) : OInv m s D bm n w left' cnt' zs v5 w2 where
  rng := ranges_touch hr ht (by simp) (by simp)
  row := (Row.kept h.row (Touch.grown (S := [w.heap.size]) hg (fun k e => by cases e; simp)) (fun g e hm => by have := h.vl g e; rw [List.mem_singleton.1 hm] at this; omega)).kept ht (by simp)
  is := hi
  grow := Grow.trans (Below.trans h.grow ((Touch.grown (S := [w.heap.size]) hg (fun k e => by cases e; simp)).below h.grow.size (by simp))) (ht.below (Nat.le_refl _) (by simp))
  vl := h.vl
theorem OInv.app {m : List Rc} {s : Nat} {D : DataW Unit} {bm n : Nat} {w : World} {left left' : Lit → Bool} {cnt cnt' : Nat} {zs : List Int} {v5 v' : Value} {wr w1 w2 wa : World} {z : Int} (h : OInv m s D bm n w left cnt zs v5 wr) (hbm : bm < w.heap.size) (hr : w1.ranges Try.prog 90 (unitElem (H := Unit)) bm w.heap.size n D left' cnt') (hg : wr.grownBy w1 (some w.heap.size)) (hi : OfIs m s left' (zs ++ [z])) (ht : Touch [] w1 w2)
    (ha : AppAtE 3 1 w2 v5 (zs.map icell ++ [icell z]) v' wa) (hta : Touch (ownL v5) w2 wa) : OInv m s D bm n w left' cnt' (zs ++ [z]) v' wa where
  rng := ranges_touch (ranges_touch hr ht (by simp) (by simp)) hta (fun hm => by have := h.vl _ (ownL_mem.1 hm); omega) (fun hm => by have := h.vl _ (ownL_mem.1 hm); omega)
  row := by unfold IRow; rw [List.map_append]; exact ha.1
  is := hi
  grow := by
    have hg2 : Grow w w2 := Grow.trans (Below.trans h.grow ((Touch.grown (S := [w.heap.size]) hg (fun k e => by cases e; simp)).below h.grow.size (by simp))) (ht.below (Nat.le_refl _) (by simp))
    exact Below.trans hg2 (hta.below hg2.size (fun j hj => by have := h.vl _ (ownL_mem.1 hj); omega))
  vl := fun g e => by
    rcases ha.2 with h1 | ⟨g', h1, h2⟩
    · exact h.vl g (h1 ▸ e)
    · rw [e] at h1; cases h1
      have h3 := hr.lt
      have h4 := ht.size
      omega
set_option maxRecDepth 100000 in
set_option maxHeartbeats 2000000 in
theorem of_ok {w : World} {B bm n : Nat} {m : List Rc} (h : Tab w B bm n m) (hml : m.length ≤ 100000) (s : Nat) : Calls Try.prog 40 #[.pointer (some ⟨B, 0, none⟩), .int .u32 (s : Int)] w (OfPost m s w) := by
  have HT := Lib.hid h
  have c0 := h.cell
  obtain ⟨D, hown, hs⟩ := h.map
  have HO := Lib.hid hown
  have HS := Lib.hid hs
  have HBM := Lib.hid h.lt.2
  obtain ⟨i0, hi0, hz0, hz1, hz2⟩ := info_parts info3
  have HI0 := Lib.hid hi0
  clear h hown hs hi0
  go_enter Try.func40, Try.ntmps40
  go_wp2_with fail
  refine (made_yes HT.out).mono ?_
  rintro e w' ⟨rfl, rfl⟩
  go_wp2_with (first | (at_range; refine wpList_range_own _ rfl _ 86 rfl 90 73 keyed Try.underlying86 _ bm n D rfl HO.out ?_; intro w0 hrg0 hg0 hs0))
  go_frame
  have HI := Lib.hid (show OInv m s D bm n w (Maps.has D) (Maps.size D) [] (.slice none 0 0) w0 from { rng := hrg0, row := rowNil _ _ _, is := OfIs.start HS.out s, grow := (Touch.grown (S := []) hg0 (by simp)).below (Nat.le_refl _) (by simp), vl := fun g e => (by cases e) })
  clear hrg0 hg0 hs0 c0
  go_loopw [5] (fun t5 wr => ∃ (left : Lit → Bool) (cnt : Nat) (zs : List Int), (∃ a5 n5 c5, t5 = .slice a5 n5 c5) ∧ Hid (OInv m s D bm n w left cnt zs t5 wr)) (fun _ wr => wr.rangeLeft bm w.heap.size)
  case atStart => exact ⟨_, _, [], ⟨none, 0, 0, rfl⟩, HI⟩
  case round =>
    obtain ⟨left, cnt, zs, ⟨a5, n5, c5, rfl⟩, HI⟩ := hrel
    go_wp2_with (first | (at_next; refine wpList_next_ranges _ rfl _ rfl 90 keyed (unitElem (H := Unit)) (fun x : Rc => Value.agg #[.int .i64 x.1, .int .u32 (x.2 : Int)]) (fun _ : Unit => Value.agg #[]) (fun key l hk => by obtain ⟨r, _, h2, _⟩ := keyOf_inv hk; exact ⟨r, h2⟩) (fun v y hv => ⟨(), (unitElem_inv hv).1⟩) bm w.heap.size n _ _ _ rfl HI.out.rng ?_ ?_))
    · intro _ hl0
      have HF := Lib.hid (HI.out.is.done HS.out.nodup hl0)
      have HLn := Lib.hid (show zs.length ≤ 1000000 by have := HI.out.is.len; omega)
      clear hl0
      go_wp2_with fail
      refine (sort_ints HI.out.row HLn.out).mono ?_
      intro e w2 hpost
      obtain ⟨he, hr2, ht2⟩ := hpost
      subst he
      have HR := Lib.hid (show IRow w2 (.slice a5 n5 c5) (sortI (ofR m s)) by rw [← HF.out]; exact hr2)
      have HG := Lib.hid (show Grow w w2 from Below.trans HI.out.grow (ht2.below HI.out.grow.size (fun j hj => by have := HI.out.vl _ (ownL_mem.1 hj); omega)))
      have HV := Lib.hid (show ∀ g, (Value.slice a5 n5 c5).ownBlock = some g → w.heap.size ≤ g from fun g e => by have := HI.out.vl g e; omega)
      clear hr2 ht2
      go_wp2_with fail
      go_ret
      exact ⟨_, rfl, HR.out, HG.out, HV.out⟩
    · intro xb xs l0 y1 y2 w1 cnt1 hkey hlk hv hat hrg1 hlt hg1 hs1 hen
      obtain ⟨hok, rfl⟩ := kv_inv (x := (xb, xs)) hkey
      have hxm := HS.out.mem_of hok hat
      have HR1 := Lib.hid hrg1
      have HG1 := Lib.hid hg1
      have HLT := Lib.hid hlt
      have HLK := Lib.hid hlk
      have HXM := Lib.hid hxm
      have HRW := Lib.hid (show IRow w1 (.slice a5 n5 c5) zs from Row.kept HI.out.row (Touch.grown (S := [w.heap.size]) hg1 (fun k e => by cases e; simp)) (fun g e hm => by have := HI.out.vl g e; rw [List.mem_singleton.1 hm] at this; omega))
      clear hkey hlk hv hat hrg1 hg1 hlt hok hxm hs1
      by_cases hxb : xs = s
      · have HI1 := Lib.hid (HI.out.is.more HS.out.ok HXM.out hxb HLK.out)
        have exb : ((xs : Int) == (s : Int)) = true := by simp; omega
        go_wp2_with (first | (at_builtin; refine wpList_append_row rfl _ _ 37 rfl 3 i0 (.int .i64 0) 1 8 Try.underlying37 HI0.out hz0 hz1 hz2 rfl (by omega) (.slice a5 n5 c5) (zs.map icell) rfl (Row.kept HRW.out ((Touch.alloc [] _ _).trans (Touch.alloc [] _ _) (by simp)) (by simp)) _ 1 (icell xb) rfl rfl (new_cells2 _ _ _ _) (fun u hu => by rw [List.mem_singleton.1 hu]; rfl) (by rw [List.length_map]; have := HI.out.is.len; omega) (by omega) ?_; intro v' wa happ htch))
        have HI2 := Lib.hid (HI.out.app HBM.out HR1.out HG1.out HI1.out ((Touch.alloc [] _ _).trans (Touch.alloc [] _ _) (by simp)) happ htch)
        clear happ htch
        go_roundw
        case rel =>
          obtain ⟨aa, cc, hh⟩ := HI2.out.row.len
          exact ⟨_, _, _, ⟨aa, _, cc, hh⟩, HI2⟩
        case measure => rw [HI2.out.rng.left_eq, HI.out.rng.left_eq]; exact HLT.out
      · have HI1 := Lib.hid (HI.out.is.other HS.out.ok HXM.out hxb)
        have HI2 := Lib.hid (HI.out.later HBM.out HR1.out HG1.out HI1.out (Touch.alloc [] w1 (.cells #[.int .i64 xb, .int .u32 (xs : Int)] 90)))
        have exb : ((xs : Int) == (s : Int)) = false := by simp; omega
        go_wp2_with fail
        go_roundw
        case rel => exact ⟨_, _, _, ⟨a5, n5, c5, rfl⟩, HI2⟩
        case measure => rw [HI2.out.rng.left_eq, HI.out.rng.left_eq]; exact HLT.out
#print axioms of_ok
end Go.Proofs.Ytnogajnoghjmhaa.Rev
/- The law's awake; rows of integers compared: the walks. -/
set_option linter.unusedVariables false
set_option linter.unusedSimpArgs false
namespace Go.Proofs.Ytnogajnoghjmhaa
theorem IRow.cell {w : World} {g n cap : Nat} {zs : List Int} (h : IRow w (.slice (some ⟨g, 0, none⟩) n cap) zs) {k : Nat} {z : Int} (hk : zs[k]? = some z) : w.cell? ⟨g, k, none⟩ = some (.int .i64 z) := by
  have := Row.range h (i := k) (c := icell z) (by rw [List.getElem?_map, hk]; rfl) 0 _ rfl
  simpa using this
end Go.Proofs.Ytnogajnoghjmhaa
namespace Go.Proofs.Ytnogajnoghjmhaa.Rev
open Go.RowKit Go.Maps

set_option maxRecDepth 100000 in
set_option maxHeartbeats 2000000 in
theorem same_ints {w : World} {va vb : Value} {zs : List Int} (ha : IRow w va zs) (hb : IRow w vb zs) (hl : zs.length ≤ 100000) : Calls Try.prog 42 #[va, vb] w fun e w' => e = .returned (.bool true) ∧ Grow w w' := by
  have HA := Lib.hid ha
  have HB := Lib.hid hb
  obtain ⟨aa, ca, hva⟩ := ha.len
  obtain ⟨ab, cb, hvb⟩ := hb.len
  rw [List.length_map] at hva hvb
  obtain ⟨n, hn⟩ : ∃ n, n = zs.length := ⟨_, rfl⟩
  rw [← hn] at hva hvb hl
  subst hva hvb
  have HN := Lib.hid hn
  clear ha hb hn
  go_enter Try.func42, Try.ntmps42
  go_wp2_with fail
  go_loopw [5] (fun t5 wr => ∃ (i : Nat), i ≤ n ∧ t5 = .int .i64 (i : Int) ∧ Hid (Touch [] w wr)) (fun t5 _ => n - (intOf t5).toNat)
  case atStart => exact ⟨0, by omega, rfl, Lib.hid (Touch.refl _ _)⟩
  case round =>
    obtain ⟨i, hi, rfl, HW⟩ := hrel
    by_cases hlt : i < n
    · have hiz : i < zs.length := by rw [← HN.out]; exact hlt
      obtain ⟨z, hz⟩ : ∃ z, zs[i]? = some z := ⟨zs[i], by simp [hiz]⟩
      obtain ⟨ga, ca', hv, _⟩ := HA.out.open_ (by rw [List.length_map]; omega)
      rw [List.length_map, ← HN.out] at hv
      cases hv
      obtain ⟨gb, cb', hv, _⟩ := HB.out.open_ (by rw [List.length_map]; omega)
      rw [List.length_map, ← HN.out] at hv
      cases hv
      have y0 := IRow.cell (Row.kept HA.out HW.out (by simp)) hz
      have y1 := IRow.cell (Row.kept HB.out HW.out (by simp)) hz
      have b0 : (0 : Int) ≤ (i : Int) := by omega
      have b1 : (i : Int) < (n : Int) := by omega
      clear hz hiz
      go_upto_region 6 with (fail)
      go_quiet (fail)
      go_wp2_with fail
      go_roundw
      case rel => exact ⟨i + 1, by omega, by go_num, Lib.hid (HW.out.trans (touch_drewN [] _ _) (by simp))⟩
      case measure => simp [intOf]; omega
    · obtain rfl : i = n := by omega
      go_wp2_with fail
      go_ret
      exact ⟨rfl, HW.out.below (Nat.le_refl _) (by simp)⟩
theorem irow_two (w : World) (x y : Int) : IRow (w.alloc (.cells #[.int .i64 x, .int .i64 y] 3)) (.slice (some ⟨w.heap.size, 0, none⟩) 2 2) [x, y] := by
  refine ⟨fun c hc => ?_, by simp [icell], .inr ⟨w.heap.size, 2, _, rfl, Nat.zero_le _, heap_alloc_last _ _, by simp, by unfold maxLen; omega, by simp, by simp [icell]⟩⟩
  obtain ⟨z, _, rfl⟩ := List.mem_map.1 hc
  rfl
theorem aw_of : sortI (ofR [(5, 3), (5, 7), (9, 7)] 7) = [5, 9] := by
  rw [show ofR [(5, 3), (5, 7), (9, 7)] 7 = [5, 9] by decide]
  exact sorted_unique _ _ (sortI_perm _) (sortI_sorted _) (by decide)
end Go.Proofs.Ytnogajnoghjmhaa.Rev
