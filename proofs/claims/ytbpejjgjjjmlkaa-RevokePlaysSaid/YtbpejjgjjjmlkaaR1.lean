/- A table of records in memory: keys that are structs; the plain side of a set. -/
import Derived.Test.YtbpejjgjjjmlkaaRows
import Derived.Test.YtbpejjgjjjmlkaaOps
import Derived.WalkKit
import Derived.WalkSpells
import Derived.WalkLawsBesides
import Derived.Lib.Hide
import Derived.Deep.QuietTactic
import Derived.BigQuiet
import Derived.IntWalk
import Derived.Maps.RangeWalk
import Derived.Maps.OwnSet
import Derived.DeepKeys4
set_option linter.unusedVariables false
set_option linter.unusedSimpArgs false
namespace Go.Proofs.Ytbpejjgjjjmlkaa
open Go.RowKit Go.Maps

/-- a record: its block, its number -/
abbrev Rc := Int × Nat
def RcOk (r : Rc) : Prop := -9223372036854775808 ≤ r.1 ∧ r.1 ≤ 9223372036854775807 ∧ r.2 < 4294967296
def kv (r : Rc) : Value := .agg #[.int .i64 r.1, .int .u32 (r.2 : Int)]
def kl (r : Rc) : Lit := .string (keyBytes [.int .i64 r.1, .int .u32 (r.2 : Int)])
theorem laidOut0 : laidOutB Try.prog = true := by kernel_rfl
theorem keyed : Keyed Try.prog 60 := Keyed.of_law (deep_law_laid laidOut0 (m := 2) (by omega) (of_decide_eq_true (by kernel_rfl)) (by kernel_rfl) (by rw [Try.underlying60]))
theorem keyType60 : Try.prog.keyType 60 = true := by kernel_rfl
theorem cells60 : Try.prog.cellsOf 60 = 2 := by kernel_rfl
theorem wf_i64 {a : Int} (h1 : -9223372036854775808 ≤ a) (h2 : a ≤ 9223372036854775807) : (Lit.int .i64 a).wf = true := by
  simp [Lit.wf, IntKind.min, IntKind.max, IntKind.signed, IntKind.bits]; omega
theorem wf_u32 {a : Nat} (h : a < 4294967296) : (Lit.int .u32 (a : Int)).wf = true := by
  simp [Lit.wf, IntKind.min, IntKind.max, IntKind.signed, IntKind.bits]; omega
theorem lits60 (n : Nat) (c0 c1 : Value) : Try.prog.keyLits (n + 2) 60 [c0, c1] = ((Try.prog.keyLits (n + 1) 3 [c0]).bind fun a => (Try.prog.keyLits (n + 1) 23 [c1]).bind fun b => some (a ++ b)) := by
  conv => lhs; unfold Program.keyLits
  rw [Try.underlying60]
  simp [cells60]
  rw [show Try.prog.cellsOf 3 = 1 by kernel_rfl, show Try.prog.cellsOf 23 = 1 by kernel_rfl]
  simp only [List.take_succ_cons, List.take_zero]
  generalize Try.prog.keyLits (n + 1) 3 [c0] = o0
  generalize Try.prog.keyLits (n + 1) 23 [c1] = o1
  cases o0 <;> cases o1 <;> simp
theorem keyOf_kv (r : Rc) (h : RcOk r) : keyOf Try.prog 60 (kv r) = some (kl r) := by
  obtain ⟨h1, h2, h3⟩ := h
  have w1 := wf_i64 h1 h2
  have w2 := wf_u32 h3
  unfold keyOf
  rw [Try.underlying60]
  simp only [keyType60, Bool.true_and]
  rw [if_pos (by show (kv r).formed _ _ = true; unfold kv Value.formed; rw [Try.underlying60]; simp [cells60])]
  obtain ⟨n, hn⟩ : ∃ n, Try.prog.types.size + 1 = n + 2 := ⟨Try.prog.types.size - 1, by have : 1 ≤ Try.prog.types.size := of_decide_eq_true (by kernel_rfl); omega⟩
  rw [hn]
  show ((Try.prog.keyLits (n + 2) 60 [.int .i64 r.1, .int .u32 (r.2 : Int)]).map fun ls => Lit.string (keyBytes ls)) = some (kl r)
  rw [lits60]
  simp [Program.keyLits, Try.underlying3, Try.underlying23, w1, w2, kl]
theorem lits_int {n : Nat} {q : IntKind} {t : TypeId} {c : Value} {ls : List Lit} (ht : Try.prog.underlying t = some (.int q)) (h : Try.prog.keyLits (n + 1) t [c] = some ls) : ∃ z, c = .int q z ∧ (Lit.int q z).wf = true ∧ ls = [.int q z] := by
  unfold Program.keyLits at h
  rw [ht] at h
  cases c <;> simp at h
  obtain ⟨⟨rfl, w⟩, rfl⟩ := h
  exact ⟨_, rfl, w, rfl⟩
theorem keyOf_inv {key : Value} {l : Lit} (h : keyOf Try.prog 60 key = some l) : ∃ r, RcOk r ∧ key = kv r ∧ l = kl r := by
  have h0 := h
  unfold keyOf at h
  rw [Try.underlying60] at h
  simp only [keyType60, Bool.true_and] at h
  split at h
  · rename_i hf
    obtain ⟨n, hn⟩ : ∃ n, Try.prog.types.size + 1 = n + 2 := ⟨Try.prog.types.size - 1, by have : 1 ≤ Try.prog.types.size := of_decide_eq_true (by kernel_rfl); omega⟩
    rw [hn] at h
    cases key <;> simp [Value.formed, Try.underlying60, cells60] at hf
    rename_i cs
    obtain ⟨l'⟩ := cs
    match l', hf with
    | [c0, c1], _ =>
      rw [show (Value.agg { toList := [c0, c1] }).cells.toList = [c0, c1] from rfl, lits60] at h
      rw [Option.map_eq_some_iff] at h
      obtain ⟨ls, h, rfl⟩ := h
      rw [Option.bind_eq_some_iff] at h
      obtain ⟨x1, e1, h⟩ := h
      rw [Option.bind_eq_some_iff] at h
      obtain ⟨x2, e2, h⟩ := h
      obtain ⟨a, rfl, w1, rfl⟩ := lits_int Try.underlying3 e1
      obtain ⟨b, rfl, w2, rfl⟩ := lits_int Try.underlying23 e2
      cases h
      have b1 : -9223372036854775808 ≤ a ∧ a ≤ 9223372036854775807 := by simpa [Lit.wf, IntKind.min, IntKind.max, IntKind.signed, IntKind.bits] using w1
      have b2 : 0 ≤ b ∧ b < 4294967296 := by simp [Lit.wf, IntKind.min, IntKind.max, IntKind.signed, IntKind.bits] at w2; omega
      refine ⟨(a, b.toNat), ⟨b1.1, b1.2, by show b.toNat < _; omega⟩, ?_, ?_⟩
      · unfold kv; rw [show (((a, b.toNat) : Rc).2 : Int) = b by show ((b.toNat : Nat) : Int) = b; omega]
      · unfold kl; rw [show (((a, b.toNat) : Rc).2 : Int) = b by show ((b.toNat : Nat) : Int) = b; omega]; simp
  · cases h
theorem kl_inj {r s : Rc} (hr : RcOk r) (hs : RcOk s) (h : kl r = kl s) : r = s := by
  have := keyed.inj (keyOf_kv r hr) (by rw [h]; exact keyOf_kv s hs)
  unfold kv at this
  simp only [Value.agg.injEq, Array.mk.injEq, List.cons.injEq, Value.int.injEq, and_true, true_and] at this
  exact Prod.ext this.1 (by omega)
theorem kl_key (r : Rc) : WideAt.IsKeyLit (kl r) := trivial
theorem kl_same {r s : Rc} (hr : RcOk r) (hs : RcOk s) : (kl r).sameKey (kl s) = decide (r = s) := by
  by_cases h : r = s
  · subst h; rw [decide_eq_true rfl]; simp [kl, Lit.sameKey]
  · rw [decide_eq_false h]
    exact sameKey_ne (fun e => h (kl_inj hr hs e))
#print axioms kl_same
end Go.Proofs.Ytbpejjgjjjmlkaa
