/- A transaction in memory: made, handle, ask, New. -/
import Derived.Test.YtnogajnoghjmhaaT1
set_option linter.unusedVariables false
set_option linter.unusedSimpArgs false
namespace Go.Proofs.Ytnogajnoghjmhaa
open Go.RowKit Go.Maps

/-- what a transaction has -/
structure PS where
  ch : List (Int × Blk)
  od : List (Int × Unit)
  fr : List (Int × Unit)
  rv : List Int
/-- where its maps and its table lie -/
structure PA where
  c : Nat
  o : Nat
  f : Nat
  B : Nat
  m : Nat
def PA.ids (a : PA) : List Nat := [a.c, a.o, a.f, a.B, a.m]
structure PIs (w : World) (a : PA) (N seq : Nat) (s : PS) : Prop where
  ch : MapIs w blkK a.c N s.ch
  od : MapIs w unitK a.o N s.od
  fr : MapIs w unitK a.f N s.fr
  rv : RvIs w a.B a.m N seq s.rv
theorem PIs.kept {w w' : World} {a : PA} {N seq : Nat} {s : PS} (h : PIs w a N seq s) {T : List Nat} (ht : Touch T w w') (hn : ∀ i ∈ a.ids, i ∉ T) : PIs w' a N seq s :=
  ⟨h.ch.kept ht (hn _ (by simp [PA.ids])), h.od.kept ht (hn _ (by simp [PA.ids])), h.fr.kept ht (hn _ (by simp [PA.ids])), h.rv.kept ht (hn _ (by simp [PA.ids])) (hn _ (by simp [PA.ids]))⟩
theorem PIs.mono {w : World} {a : PA} {N M seq : Nat} {s : PS} (h : PIs w a N seq s) (hm : N ≤ M) : PIs w a M seq s := ⟨h.ch.mono hm, h.od.mono hm, h.fr.mono hm, h.rv.mono hm⟩
theorem PIs.lt {w : World} {a : PA} {N seq : Nat} {s : PS} (h : PIs w a N seq s) : ∀ i ∈ a.ids, i < w.heap.size := by
  obtain ⟨m, t, _⟩ := h.rv.tab
  intro i hi
  simp only [PA.ids, List.mem_cons, List.not_mem_nil, or_false] at hi
  rcases hi with rfl | rfl | rfl | rfl | rfl
  · exact h.ch.lt
  · exact h.od.lt
  · exact h.fr.lt
  · exact t.lt.1
  · exact t.lt.2
/-- the cells of a transaction that is closed, and of one that is open -/
def cellsC (a : PA) (seq : Nat) : List Value := [.map (some a.c), .map (some a.o), .map (some a.f), .pointer (some ⟨a.B, 0, none⟩), .int .u32 (seq : Int), .bool false, .int .i64 0, .int .i64 0, .map none, .map none, .map none, .map none, .pointer none]
def cellsO (a : PA) (seq : Nat) (cr rv : Int) (tb : Nat) (o : PA) : List Value := [.map (some a.c), .map (some a.o), .map (some a.f), .pointer (some ⟨a.B, 0, none⟩), .int .u32 (seq : Int), .bool true, .int .i64 cr, .int .i64 rv, .map (some tb), .map (some o.c), .map (some o.o), .map (some o.f), .pointer (some ⟨o.B, 0, none⟩)]
structure TC (w : World) (B : Nat) (a : PA) (N seq : Nat) (s : PS) : Prop where
  obj : w.heap[B]? = some (.cells (cellsC a seq).toArray 66)
  p : PIs w a N seq s
  nd : (B :: a.ids).Nodup
structure TO (w : World) (B : Nat) (a : PA) (tb : Nat) (o : PA) (N seq : Nat) (cr rv : Int) (s q : PS) (did : List (Int × Unit)) : Prop where
  obj : w.heap[B]? = some (.cells (cellsO a seq cr rv tb o).toArray 66)
  p : PIs w a N seq s
  t : MapIs w unitK tb N did
  q : PIs w o N seq q
  nd : (B :: a.ids ++ tb :: o.ids).Nodup
theorem neqB (r : Option Nat) (w : World) : (binOp .neq 60 (.map r) (.map none)).run Try.prog w = .ok (.bool (!r.isNone)) w := run_neq_map_nil w _ _ _ r Try.underlying60
theorem made_some {w : World} {B : Nat} {c : Nat} (h : w.cell? ⟨B, 0, none⟩ = some (.map (some c))) : Calls Try.prog 31 #[.pointer (some ⟨B, 0, none⟩)] w fun e w' => e = .returned (.bool true) ∧ w = w' := by
  have hm := neqB
  go_enter Try.func31, Try.ntmps31
  go_wp2
  go_ret
  exact ⟨rfl, rfl⟩
theorem made_none (w : World) : Calls Try.prog 31 #[.pointer none] w fun e w' => e = .returned (.bool false) ∧ w = w' := by
  have hm := neqB
  go_enter Try.func31, Try.ntmps31
  go_wp2
  go_ret
  exact ⟨rfl, rfl⟩
theorem made_bare {w : World} {B : Nat} (h : w.cell? ⟨B, 0, none⟩ = some (.map none)) : Calls Try.prog 31 #[.pointer (some ⟨B, 0, none⟩)] w fun e w' => e = .returned (.bool false) ∧ w = w' := by
  have hm := neqB
  go_enter Try.func31, Try.ntmps31
  go_wp2
  go_ret
  exact ⟨rfl, rfl⟩
/-- a call's first error: of a transaction that is none, one that is closed, one that is open -/
theorem handle_not {w : World} {v : Value} (hM : Calls Try.prog 31 #[v] w fun e w' => e = .returned (.bool false) ∧ w = w') : Calls Try.prog 35 #[v] w fun e w' => e = .returned (.int .i64 1) ∧ w = w' := by
  go_enter Try.func35, Try.ntmps35
  go_wp2_with fail
  refine hM.mono ?_
  rintro e w' ⟨rfl, rfl⟩
  go_wp2_with fail
  go_ret
  exact ⟨rfl, rfl⟩
theorem handle_is {w : World} {B c : Nat} {b : Bool} (h0 : w.cell? ⟨B, 0, none⟩ = some (.map (some c))) (h5 : w.cell? ⟨B, 5, none⟩ = some (.bool b)) : Calls Try.prog 35 #[.pointer (some ⟨B, 0, none⟩)] w fun e w' => e = .returned (.int .i64 (if b then 0 else 141)) ∧ w = w' := by
  have HM := Lib.hid (made_some h0)
  cases b
  · go_enter Try.func35, Try.ntmps35
    go_wp2_with fail
    refine HM.out.mono ?_
    rintro e w' ⟨rfl, rfl⟩
    go_wp2_with fail
    go_ret
    exact ⟨rfl, rfl⟩
  · go_enter Try.func35, Try.ntmps35
    go_wp2_with fail
    refine HM.out.mono ?_
    rintro e w' ⟨rfl, rfl⟩
    go_wp2_with fail
    go_ret
    exact ⟨rfl, rfl⟩
theorem ask_err {w : World} {v : Value} {b z : Int} (hz : z ≠ 0) (hH : Calls Try.prog 35 #[v] w fun e w' => e = .returned (.int .i64 z) ∧ w = w') : Calls Try.prog 33 #[v, .int .i64 b] w fun e w' => e = .returned (.int .i64 z) ∧ w = w' := by
  have d0 : (z == 0) = false := by simpa using hz
  go_enter Try.func33, Try.ntmps33
  go_wp2_with fail
  refine hH.mono ?_
  rintro e w' ⟨rfl, rfl⟩
  go_wp2_with fail
  go_ret
  exact ⟨rfl, rfl⟩
theorem ask_is {w : World} {v : Value} {b : Int} (hH : Calls Try.prog 35 #[v] w fun e w' => e = .returned (.int .i64 0) ∧ w = w') : Calls Try.prog 33 #[v, .int .i64 b] w fun e w' => e = .returned (.int .i64 (if b < 0 then 2 else 0)) ∧ w = w' := by
  by_cases hb : b < 0
  · rw [if_pos hb]
    have d0 : decide (b < 0) = true := decide_eq_true hb
    go_enter Try.func33, Try.ntmps33
    go_wp2_with fail
    refine hH.mono ?_
    rintro e w' ⟨rfl, rfl⟩
    go_wp2_with fail
    go_ret
    exact ⟨rfl, rfl⟩
  · rw [if_neg hb]
    have d0 : decide (b < 0) = false := decide_eq_false hb
    go_enter Try.func33, Try.ntmps33
    go_wp2_with fail
    refine hH.mono ?_
    rintro e w' ⟨rfl, rfl⟩
    go_wp2_with fail
    go_ret
    exact ⟨rfl, rfl⟩
#print axioms ask_is
end Go.Proofs.Ytnogajnoghjmhaa
