/- Flags that are appended to a new row. -/
import Derived.Test.YtkcbjhdklenlbaaD50
import Derived.Laws.AppendOwnNone
set_option linter.unusedVariables false
set_option linter.unusedSimpArgs false
namespace Go.Proofs.Ytkcbjhdklenlbaa
open Go.RowKit

theorem infoB : (Try.prog.info? 4).map (fun i => (i.zero, i.size, i.bytes)) = some (some (.bool false), 1, 1) := by kernel_rfl
theorem mk_bools (w : World) : (Instr.buildSlice 50 0 #[]).run Try.prog w = .ok (.slice (some ⟨w.heap.size, 0, none⟩) 0 0) (w.alloc (.cells #[] 4)) := by kernel_rfl
/-- a copy of flags, in memory of its own -/
def Copied (g : Nat) (w : World) (ks : List Bool) (v' : Value) (w' : World) : Prop := w'.ownsRow 0 4 1 v' ks.length (ks.map Value.bool) ∧ (v'.ownBlock = some g ∨ v'.ownBlock = some w.heap.size) ∧ w.grownBy w' (some g)
theorem wpList_append_bools {w : World} {ops : Array Oper} {rest : List Oper} {o : Oper} {a : Act} {Q : Exit → Act → World → Prop} (hgd : o.guard = none) (s x : Operand)
    (ho : o.op = .call { callee := .builtin .append, args := #[s, x], argTypes := #[50, 50] })
    (g : Nat) (hs : a.eval s = .slice (some ⟨g, 0, none⟩) 0 0) (hown : w.ownsRow 0 4 1 (.slice (some ⟨g, 0, none⟩) 0 0) 0 []) (A : Option Addr) (mm c : Nat) (ks : List Bool) (hx : a.eval x = .slice A mm c) (hlen : ks.length = mm) (hnil : A = none → c = 0 ∧ mm = 0)
    (hcell : ∀ ad, A = some ad → ∀ j z, ks[j]? = some z → w.cell? (ad.add j) = some (.bool z)) (hl : mm ≤ 140737488355328)
    (hg0 : w.grownBy w (some g)) (hT : ∀ v' w', Copied g w ks v' w' → wpList Try.prog ops Q rest (a.put o.dst v') w') : wpList Try.prog ops Q (o :: rest) a w := by
  obtain ⟨i0, hi, hz0, hz1, hz2⟩ := info_parts infoB
  cases A with
  | none =>
    obtain ⟨rfl, rfl⟩ := hnil rfl
    have hb : ks = [] := List.eq_nil_of_length_eq_zero hlen
    subst hb
    exact wpList_append_own_none hgd s x 50 ho 0 4 i0 1 Try.underlying50 hi _ 0 [] hs hown hx (hT _ w ⟨hown, .inl rfl, hg0⟩)
  | some ad =>
    refine wpList_append_own_at w hgd s x 50 ho 0 4 i0 (.bool false) 1 1 Try.underlying50 hi hz0 hz1 hz2 rfl (by decide) _ 0 [] hs hown ad mm c (ks.map Value.bool) hx (by simp [hlen]) ?_ ?_ (by unfold maxLen; omega) (by omega) (Nat.zero_le _) ?_
    · intro j u hu
      rw [List.getElem?_map] at hu
      cases hz : ks[j]? with
      | none => rw [hz] at hu; simp at hu
      | some z => rw [hz] at hu; rw [hcell ad rfl j z hz]; simpa using hu
    · intro u hu; obtain ⟨y, _, rfl⟩ := List.mem_map.1 hu; rfl
    · intro v' w' h1 h2 _ h4
      refine hT v' w' ⟨?_, h4, h2⟩
      rw [hlen]
      simpa using h1
#print axioms wpList_append_bools
theorem flat_bools (ks : List Bool) : (ks.map fun b => [Value.bool b]).flatten = ks.map Value.bool := by
  induction ks with
  | nil => rfl
  | cons b ks ih => rw [List.map_cons, List.flatten_cons, ih]; rfl
theorem Copied.row {g : Nat} {w : World} {ks : List Bool} {v' : Value} {w' : World} (h : Copied g w ks v' w') : Row w' 4 1 v' (ks.map fun b => [Value.bool b]) := by
  refine ⟨fun c hc => ?_, ?_⟩
  · obtain ⟨b, _, rfl⟩ := List.mem_map.1 hc; rfl
  · rw [List.length_map, flat_bools]; exact h.1
theorem Copied.bools {g : Nat} {w : World} {ks : List Bool} {v' : Value} {w' : World} (h : Copied g w ks v' w') (S : List Nat) (hS : ∀ k ∈ S, k ≠ g ∧ k < w.heap.size) : Bools w' S v' ks := by
  obtain ⟨a, cap, hv⟩ := h.row.len
  rw [List.length_map] at hv
  refine ⟨a, cap, hv, fun i x hx => ?_⟩
  have hi := (List.getElem?_eq_some_iff.1 hx).1
  obtain ⟨g', cap', hv2, hg', _⟩ := h.row.open_ (by rw [List.length_map]; omega)
  rw [List.length_map] at hv2
  rw [hv2] at hv
  cases hv
  refine ⟨⟨g', 0, none⟩, rfl, hg', ?_, ?_⟩
  · intro hm
    have := hS g' hm
    rcases h.2.1 with e | e
    · rw [hv2] at e; have e : g' = g := Option.some.inj e; exact this.1 e
    · rw [hv2] at e; have e : g' = w.heap.size := Option.some.inj e; omega
  · have hr := h.row
    rw [hv2] at hr
    have := hr.range (i := i) (c := [Value.bool x]) (by rw [List.getElem?_map, hx]; rfl) 0 _ rfl
    rw [Addr.add_mid, Nat.zero_add]
    simpa using this
#print axioms Copied.bools
end Go.Proofs.Ytkcbjhdklenlbaa
