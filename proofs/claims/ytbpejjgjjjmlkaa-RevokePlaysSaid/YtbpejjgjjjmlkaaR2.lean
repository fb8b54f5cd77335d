/- revoke.Table: New, made, ask, Add, Cancel, Len: the walks. -/
import Derived.Test.YtbpejjgjjjmlkaaR1
import Derived.Laws.Cover3
import Derived.Deep.WholeRow
set_option linter.unusedVariables false
set_option linter.unusedSimpArgs false
namespace Go.Proofs.Ytbpejjgjjjmlkaa
open Go.RowKit Go.Maps

/-- a map reads as a set of records -/
structure SetOf (D : DataW Unit) (m : List Rc) : Prop where
  nodup : m.Nodup
  ok : ∀ r ∈ m, RcOk r
  has : ∀ r, RcOk r → Maps.has D (kl r) = decide (r ∈ m)
  size : Maps.size D = m.length
def delR (m : List Rc) (r : Rc) : List Rc := m.filter (fun s => decide (s ≠ r))
def insR (m : List Rc) (r : Rc) : List Rc := delR m r ++ [r]
theorem delR_mem {m : List Rc} {r s : Rc} : s ∈ delR m r ↔ s ∈ m ∧ s ≠ r := by unfold delR; simp
theorem insR_mem {m : List Rc} {r s : Rc} : s ∈ insR m r ↔ s ∈ m ∨ s = r := by
  unfold insR; rw [List.mem_append, delR_mem, List.mem_singleton]
  by_cases h : s = r <;> simp [h]
theorem delR_length {m : List Rc} {r : Rc} (hn : m.Nodup) : (delR m r).length + (if r ∈ m then 1 else 0) = m.length := by
  induction m with
  | nil => simp [delR]
  | cons a m ih =>
    have h := List.nodup_cons.1 hn
    have ih := ih h.2
    by_cases e : a = r
    · subst e
      have : delR (a :: m) a = delR m a := by unfold delR; simp
      rw [this, if_pos (by simp)]
      rw [if_neg h.1] at ih
      simp; omega
    · have : delR (a :: m) r = a :: delR m r := by unfold delR; simp [e]
      rw [this]
      by_cases hm : r ∈ m
      · rw [if_pos hm] at ih; rw [if_pos (by simp [hm])]; simp; omega
      · rw [if_neg hm] at ih; rw [if_neg (by simp [hm]; exact fun h => e h.symm)]; simp; omega
theorem SetOf.empty : SetOf (.map []) [] := ⟨List.nodup_nil, fun r h => (by cases h), fun r _ => rfl, rfl⟩
theorem SetOf.put {D : DataW Unit} {m : List Rc} (h : SetOf D m) (ht : Tidy D) {r : Rc} (hr : RcOk r) (u : DataW Unit) : SetOf (D.put (kl r) u) (insR m r) where
  nodup := by
    unfold insR
    rw [List.nodup_append]
    refine ⟨h.nodup.filter _, by simp, fun a ha b hb => ?_⟩
    rw [List.mem_singleton.1 hb]
    exact (delR_mem.1 ha).2
  ok := fun s hs => by rcases insR_mem.1 hs with h1 | h1; exact h.ok s h1; rw [h1]; exact hr
  has := fun s hs => by
    by_cases e : s = r
    · subst e; rw [has_put_same ht.isMap (kl_key s), decide_eq_true (insR_mem.2 (.inr rfl))]
    · rw [has_put_other (fun c => e (kl_inj hs hr c)), h.has s hs]
      congr 1
      rw [insR_mem]; simp [e]
  size := by
    rw [size_put ht, h.has r hr, h.size]
    have := delR_length (r := r) h.nodup
    unfold insR
    rw [List.length_append]
    by_cases hm : r ∈ m
    · rw [if_pos hm] at this; simp [hm]; omega
    · rw [if_neg hm] at this; simp [hm]; omega
theorem SetOf.del {D : DataW Unit} {m : List Rc} (h : SetOf D m) (ht : Tidy D) {r : Rc} (hr : RcOk r) : SetOf (D.del (kl r)) (delR m r) where
  nodup := h.nodup.filter _
  ok := fun s hs => h.ok s (delR_mem.1 hs).1
  has := fun s hs => by
    by_cases e : s = r
    · subst e; rw [has_del_same, decide_eq_false (fun c => (delR_mem.1 c).2 rfl)]
    · rw [has_del_other (fun c => e (kl_inj hs hr c)), h.has s hs]
      congr 1
      rw [delR_mem]; simp [e]
  size := by
    have h1 := size_del (k := kl r) ht
    have h2 := delR_length (r := r) h.nodup
    rw [h.has r hr, h.size] at h1
    by_cases hm : r ∈ m
    · rw [if_pos hm] at h2; simp [hm] at h1; omega
    · rw [if_neg hm] at h2; simp [hm] at h1; omega
/-- a table of the records m; its map lies in bm; there were at most n stores -/
structure Tab (w : World) (B bm n : Nat) (m : List Rc) : Prop where
  obj : w.heap[B]? = some (.cells #[.map (some bm)] 50)
  map : ∃ D, w.ownsMap Try.prog 60 (unitElem (H := Unit)) bm n D ∧ SetOf D m
theorem Tab.cell {w : World} {B bm n : Nat} {m : List Rc} (h : Tab w B bm n m) : w.cell? ⟨B, 0, none⟩ = some (.map (some bm)) := cell_at h.obj 0
theorem Tab.lt {w : World} {B bm n : Nat} {m : List Rc} (h : Tab w B bm n m) : B < w.heap.size ∧ bm < w.heap.size := by
  obtain ⟨D, h1, _⟩ := h.map
  exact ⟨(Array.getElem?_eq_some_iff.1 h.obj).1, h1.lt⟩
theorem Tab.ne {w : World} {B bm n : Nat} {m : List Rc} (h : Tab w B bm n m) : B ≠ bm := by
  obtain ⟨D, ⟨es, clock, hb, _⟩, _⟩ := h.map
  intro e
  have := h.obj
  rw [e, hb] at this
  cases this
theorem Tab.kept {w w' : World} {B bm n : Nat} {m : List Rc} (h : Tab w B bm n m) {T : List Nat} (ht : Touch T w w') (h1 : B ∉ T) (h2 : bm ∉ T) : Tab w' B bm n m := by
  refine ⟨(ht.block B h.lt.1 h1).trans h.obj, ?_⟩
  obtain ⟨D, ⟨es, clock, hb, hr⟩, hs⟩ := h.map
  exact ⟨D, ⟨es, clock, (ht.block bm h.lt.2 h2).trans hb, hr⟩, hs⟩
theorem neq48 (r : Option Nat) (w : World) : (binOp .neq 48 (.map r) (.map none)).run Try.prog w = .ok (.bool (!r.isNone)) w := run_neq_map_nil w _ _ _ r Try.underlying48
theorem made_yes {w : World} {B bm n : Nat} {m : List Rc} (h : Tab w B bm n m) : Calls Try.prog 24 #[.pointer (some ⟨B, 0, none⟩)] w fun e w' => e = .returned (.bool true) ∧ w = w' := by
  have c0 := h.cell
  have hm := neq48
  clear h
  go_enter Try.func24, Try.ntmps24
  go_wp2
  go_ret
  exact ⟨rfl, rfl⟩
theorem made_nil (w : World) : Calls Try.prog 24 #[.pointer none] w fun e w' => e = .returned (.bool false) ∧ w = w' := by
  have hm := neq48
  go_enter Try.func24, Try.ntmps24
  go_wp2
  go_ret
  exact ⟨rfl, rfl⟩
theorem made_empty {w : World} {B : Nat} (h : w.cell? ⟨B, 0, none⟩ = some (.map none)) : Calls Try.prog 24 #[.pointer (some ⟨B, 0, none⟩)] w fun e w' => e = .returned (.bool false) ∧ w = w' := by
  have hm := neq48
  go_enter Try.func24, Try.ntmps24
  go_wp2
  go_ret
  exact ⟨rfl, rfl⟩
theorem new_ok (w : World) : Calls Try.prog 14 #[] w fun e w' => ∃ B bm, e = .returned (.pointer (some ⟨B, 0, none⟩)) ∧ Tab w' B bm 0 [] ∧ Grow w w' ∧ w.heap.size ≤ B ∧ w.heap.size ≤ bm := by
  have hmm := @run_makeMap Try.prog
  go_enter Try.func14, Try.ntmps14
  go_wp2
  go_ret
  refine ⟨w.heap.size + 1, w.heap.size, rfl, ⟨?_, .map [], ?_, SetOf.empty⟩, Grow.trans (Grow.alloc w _) (Grow.alloc _ _), by omega, Nat.le_refl _⟩
  · have := heap_alloc_last (w.alloc (.map #[] 0)) (.cells #[.map (some w.heap.size)] 50)
    simpa using this
  · exact (World.ownsMap_made w _ _ _).alloc _
theorem ask_ok {w : World} {B bm n : Nat} {m : List Rc} (h : Tab w B bm n m) (b : Int) : Calls Try.prog 30 #[.pointer (some ⟨B, 0, none⟩), .int .i64 b] w fun e w' => e = .returned (.int .i64 (if b < 0 then 2 else 0)) ∧ w = w' := by
  have HT := Lib.hid h
  clear h
  by_cases hb : b < 0
  · rw [if_pos hb]
    go_enter Try.func30, Try.ntmps30
    go_wp2_with fail
    refine (made_yes HT.out).mono ?_
    rintro e w' ⟨rfl, rfl⟩
    go_wp2_with fail
    go_ret
    exact ⟨rfl, rfl⟩
  · rw [if_neg hb]
    have d0 : decide (b < 0) = false := by simpa using hb
    go_enter Try.func30, Try.ntmps30
    go_wp2_with fail
    refine (made_yes HT.out).mono ?_
    rintro e w' ⟨rfl, rfl⟩
    go_wp2_with fail
    go_ret
    exact ⟨rfl, rfl⟩
theorem Tab.put {w w' : World} {B bm n : Nat} {m : List Rc} (h : Tab w B bm n m) {D : DataW Unit} (hw : w.ownsMap Try.prog 60 (unitElem (H := Unit)) bm n D) (hs : SetOf D m) {r : Rc} (hr : RcOk r) (hown : w'.ownsMap Try.prog 60 (unitElem (H := Unit)) bm (n + 1) (D.put (kl r) (.agg []))) (hg : w.grownBy w' (some bm)) : Tab w' B bm (n + 1) (insR m r) ∧ Touch [bm] w w' :=
  ⟨⟨(hg.block B h.lt.1 (fun e => h.ne (Option.some.inj e))).trans h.obj, _, hown, hs.put (hw.tidy keyed) hr _⟩, Touch.grown hg (fun k e => by cases e; simp)⟩
theorem Tab.del {w w' : World} {B bm n : Nat} {m : List Rc} (h : Tab w B bm n m) {D : DataW Unit} (hw : w.ownsMap Try.prog 60 (unitElem (H := Unit)) bm n D) (hs : SetOf D m) {r : Rc} (hr : RcOk r) (hown : w'.ownsMap Try.prog 60 (unitElem (H := Unit)) bm n (D.del (kl r))) (hg : w.grownBy w' (some bm)) : Tab w' B bm n (delR m r) ∧ Touch [bm] w w' :=
  ⟨⟨(hg.block B h.lt.1 (fun e => h.ne (Option.some.inj e))).trans h.obj, _, hown, hs.del (hw.tidy keyed) hr⟩, Touch.grown hg (fun k e => by cases e; simp)⟩
set_option maxHeartbeats 1000000 in
theorem add_ok {w : World} {B bm n : Nat} {m : List Rc} (h : Tab w B bm n m) (hn : n ≤ 1000000) (r : Rc) (hr : RcOk r) (h0 : 0 ≤ r.1) : Calls Try.prog 20 #[.pointer (some ⟨B, 0, none⟩), .int .i64 r.1, .int .u32 (r.2 : Int)] w fun e w' => e = .returned (.int .i64 0) ∧ Tab w' B bm (n + 1) (insR m r) ∧ Touch [bm] w w' := by
  have HT := Lib.hid h
  have c0 := h.cell
  have HR := Lib.hid hr
  obtain ⟨D, hown, hs⟩ := h.map
  have HO := Lib.hid hown
  have HS := Lib.hid hs
  have hk := keyOf_kv r hr
  unfold kv at hk
  have HK := Lib.hid hk
  have HA := Lib.hid (show (if r.1 < 0 then (2 : Int) else 0) = 0 from if_neg (by omega))
  clear h hr hown hs hk
  go_enter Try.func20, Try.ntmps20
  go_wp2_with fail
  refine (ask_ok HT.out r.1).mono ?_
  rintro e w' ⟨rfl, rfl⟩
  rw [HA.out]
  go_wp2_with (first | (at_mapUpdate; refine wpList_mapUpdate_in _ rfl _ _ _ 48 rfl 60 67 keyed Try.underlying48 _ bm n D rfl HO.out (by unfold maxLen; omega) _ _ (kl r) rfl rfl HK.out _ [] unitElem_mk ?_; intro w1 hown1 hturn1))
  have HP := Lib.hid (HT.out.put HO.out HS.out HR.out hown1 hturn1.grown)
  clear hown1 hturn1
  go_ret
  exact ⟨rfl, HP.out⟩
set_option maxHeartbeats 1000000 in
theorem add_neg {w : World} {B bm n : Nat} {m : List Rc} (h : Tab w B bm n m) (b : Int) (s : Value) (h0 : b < 0) : Calls Try.prog 20 #[.pointer (some ⟨B, 0, none⟩), .int .i64 b, s] w fun e w' => e = .returned (.int .i64 2) ∧ w = w' := by
  have HT := Lib.hid h
  have HA := Lib.hid (show (if b < 0 then (2 : Int) else 0) = 2 from if_pos h0)
  clear h
  go_enter Try.func20, Try.ntmps20
  go_wp2_with fail
  refine (ask_ok HT.out b).mono ?_
  rintro e w' ⟨rfl, rfl⟩
  rw [HA.out]
  go_wp2_with fail
  go_ret
  exact ⟨rfl, rfl⟩
set_option maxHeartbeats 1000000 in
theorem cancel_ok {w : World} {B bm n : Nat} {m : List Rc} (h : Tab w B bm n m) (r : Rc) (hr : RcOk r) (h0 : 0 ≤ r.1) : Calls Try.prog 21 #[.pointer (some ⟨B, 0, none⟩), .int .i64 r.1, .int .u32 (r.2 : Int)] w fun e w' => e = .returned (.int .i64 0) ∧ Tab w' B bm n (delR m r) ∧ Touch [bm] w w' := by
  have HT := Lib.hid h
  have c0 := h.cell
  have HR := Lib.hid hr
  obtain ⟨D, hown, hs⟩ := h.map
  have HO := Lib.hid hown
  have HS := Lib.hid hs
  have hk := keyOf_kv r hr
  unfold kv at hk
  have HK := Lib.hid hk
  have HA := Lib.hid (show (if r.1 < 0 then (2 : Int) else 0) = 0 from if_neg (by omega))
  clear h hr hown hs hk
  go_enter Try.func21, Try.ntmps21
  go_wp2_with fail
  refine (ask_ok HT.out r.1).mono ?_
  rintro e w' ⟨rfl, rfl⟩
  rw [HA.out]
  go_wp2_with (first | (at_delete; refine wpList_delete_own _ rfl _ _ 48 60 rfl 67 keyed Try.underlying48 _ bm n D rfl HO.out _ (kl r) rfl HK.out ?_; intro w1 hown1 hturn1))
  have HP := Lib.hid (HT.out.del HO.out HS.out HR.out hown1 hturn1.grown)
  clear hown1 hturn1
  go_ret
  exact ⟨rfl, HP.out⟩
set_option maxHeartbeats 1000000 in
theorem cancel_neg {w : World} {B bm n : Nat} {m : List Rc} (h : Tab w B bm n m) (b : Int) (s : Value) (h0 : b < 0) : Calls Try.prog 21 #[.pointer (some ⟨B, 0, none⟩), .int .i64 b, s] w fun e w' => e = .returned (.int .i64 2) ∧ w = w' := by
  have HT := Lib.hid h
  have HA := Lib.hid (show (if b < 0 then (2 : Int) else 0) = 2 from if_pos h0)
  clear h
  go_enter Try.func21, Try.ntmps21
  go_wp2_with fail
  refine (ask_ok HT.out b).mono ?_
  rintro e w' ⟨rfl, rfl⟩
  rw [HA.out]
  go_wp2_with fail
  go_ret
  exact ⟨rfl, rfl⟩
theorem len_ok {w : World} {B bm n : Nat} {m : List Rc} (h : Tab w B bm n m) : Calls Try.prog 12 #[.pointer (some ⟨B, 0, none⟩)] w fun e w' => e = .returned (.int .i64 (m.length : Int)) ∧ w = w' := by
  have HT := Lib.hid h
  have c0 := h.cell
  obtain ⟨D, hown, hs⟩ := h.map
  have HO := Lib.hid hown
  have HS := Lib.hid hs.size
  clear h hown hs
  go_enter Try.func12, Try.ntmps12
  go_wp2_with fail
  refine (made_yes HT.out).mono ?_
  rintro e w' ⟨rfl, rfl⟩
  go_wp2_with (first | (at_len; refine wpList_len_own _ rfl _ 48 rfl 60 67 Try.underlying48 _ bm n D rfl HO.out ?_))
  go_ret
  exact ⟨by rw [HS.out]; rfl, rfl⟩
#print axioms add_ok
end Go.Proofs.Ytbpejjgjjjmlkaa
