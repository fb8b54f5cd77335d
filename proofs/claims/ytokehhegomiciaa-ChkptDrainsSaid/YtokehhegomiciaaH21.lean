/- within; ChkptOrder's plain side. -/
import Derived.Test.YtokehhegomiciaaH17
import Derived.Test.YtokehhegomiciaaH20
set_option linter.unusedVariables false
set_option linter.unusedSimpArgs false
namespace Go.Proofs.Ytokehhegomiciaa
open Go.RowKit Go.Maps

set_option maxRecDepth 100000 in
set_option maxHeartbeats 4000000 in
theorem within_ok {g : G4} (hM : g.May) (k : Int) (w : World) {b : Bool} (hb : b = true ↔ inG g k) : Calls Try.prog 13 #[.agg #[.int .i64 g.gr, .int .i64 g.sz, .int .i64 g.ni, .int .i64 g.jr], .int .i64 k] w fun e w' => e = .returned (.bool b) ∧ Grow w w' := by
  have hM0 := hM
  obtain ⟨h1, h2, h3, h4, _, _, _, h8, h9, _, h11⟩ := hM0
  have hmb := Geo.mul_bd h1 h2 h3 h4
  obtain ⟨P, hP⟩ : ∃ P, g.gr * g.sz = P := ⟨_, rfl⟩
  rw [hP] at hmb h11
  have hw1 : IntKind.i64.wrap (2 + g.jr) = 2 + g.jr := by rw [IntKind.wrap_i64] <;> omega
  have hw2 : IntKind.i64.wrap P = P := by rw [IntKind.wrap_i64] <;> omega
  have hw3 : IntKind.i64.wrap (2 + g.jr + P) = 2 + g.jr + P := by rw [IntKind.wrap_i64] <;> omega
  have HB := Lib.hid hb
  have HI := Lib.hid (show inG g k ↔ (0 ≤ k ∧ k < 2 + g.jr + P ∧ ¬ (2 ≤ k ∧ k < 2 + g.jr)) by unfold inG; rw [hP])
  clear hb
  by_cases e0 : k = 0
  · subst e0
    have HT := Lib.hid (show b = true from HB.out.2 (HI.out.2 (by omega)))
    go_enter Try.func13, Try.ntmps13
    go_wp2_with fail
    go_ret
    exact ⟨by rw [HT.out]; rfl, Grow.alloc _ _⟩
  · have d0 : (k == 0) = false := by simpa using e0
    by_cases e1 : k = 1
    · subst e1
      have HT := Lib.hid (show b = true from HB.out.2 (HI.out.2 (by omega)))
      go_enter Try.func13, Try.ntmps13
      go_wp2_with fail
      go_ret
      exact ⟨by rw [HT.out]; rfl, Grow.alloc _ _⟩
    · have d1 : (k == 1) = false := by simpa using e1
      by_cases e2 : k ≥ 2 + g.jr
      · have d2 : decide (k ≥ 2 + g.jr) = true := decide_eq_true e2
        obtain ⟨c, hc⟩ : ∃ c, decide (k < 2 + g.jr + P) = c := ⟨_, rfl⟩
        have HT := Lib.hid (show b = c by
          rw [← hc, Bool.eq_iff_iff, HB.out, HI.out, decide_eq_true_iff]
          omega)
        go_enter Try.func13, Try.ntmps13
        go_wp2_with fail
        go_ret
        exact ⟨by rw [HT.out]; rfl, Grow.alloc _ _⟩
      · have d2 : decide (k ≥ 2 + g.jr) = false := decide_eq_false e2
        have HT := Lib.hid (show b = false from bfalse HB.out (fun h => by have := HI.out.1 h; omega))
        go_enter Try.func13, Try.ntmps13
        go_wp2_with fail
        go_ret
        exact ⟨by rw [HT.out]; rfl, Grow.alloc _ _⟩
#print axioms within_ok
theorem built_copy1 (b : Int) : Try.prog.built 35 [(0, .int .i64 b)] = some (ccell (b, zeroB)).toArray := by
  rw [built40, fill_cons (off := 0) (size := 1) rfl rfl (by rw [List.size_toArray, ccell_length zeroC_ok]; omega), Instr.fill]
  rfl
/-- of what was offered, the last that was taken decides -/
theorem forget_fields (s : CS) (rs : List Int) : True := trivial
theorem runA_last (g : G4) (l : List AV) : ((runA g l).2 = [] ∧ (runA g l).1.added = false) ∨ ∃ m x, (runA g l).2[m]? = some x ∧ (runA g l).2.length = m + 1 ∧ (runA g l).1.added = true ∧ (runA g l).1.last = x.seq := by
  unfold runA
  suffices ∀ (l : List AV) (p : CS × List AV), ((p.2 = [] ∧ p.1.added = false) ∨ ∃ m x, p.2[m]? = some x ∧ p.2.length = m + 1 ∧ p.1.added = true ∧ p.1.last = x.seq) →
      (((l.foldl (stepA g) p).2 = [] ∧ (l.foldl (stepA g) p).1.added = false) ∨ ∃ m x, (l.foldl (stepA g) p).2[m]? = some x ∧ (l.foldl (stepA g) p).2.length = m + 1 ∧ (l.foldl (stepA g) p).1.added = true ∧ (l.foldl (stepA g) p).1.last = x.seq) from this l _ (.inl ⟨rfl, rfl⟩)
  intro l
  induction l with
  | nil => intro p h; exact h
  | cons x l ih =>
    intro p h
    rw [List.foldl_cons]
    refine ih _ ?_
    unfold stepA
    split
    · exact .inr ⟨p.2.length, x, by simp, by simp, rfl, rfl⟩
    · exact h
/-- may the law's own transaction be added? -/
theorem order_may {g : G4} (hM : g.May) (l : List AV) (seq : Nat) (a b : Int) (za zb : Blk) : mayP g (runA g l).1 seq [(a, za), (b, zb)] [] 1 1 ↔ ((runA g l).1.added = true → (runA g l).1.last < seq) ∧ a < b ∧ inG g a ∧ inG g b := by
  have h8 : 40 ≤ g.jr := hM.2.2.2.2.2.2.2.1
  constructor
  · intro h
    obtain ⟨h1, h2⟩ := rise_of h.cs
    refine ⟨h.seq, by simpa using h1, h2 (a, za) (by simp), h2 (b, zb) (by simp)⟩
  · intro ⟨h1, h2, h3, h4⟩
    exact ⟨by omega, by omega, h1, cOk_of (by simpa using h2) (by
      intro c hc
      simp only [List.mem_cons, List.not_mem_nil, or_false] at hc
      rcases hc with rfl | rfl
      · exact h3
      · exact h4), rOk_of (by simp) (by simp)⟩
#print axioms order_may
end Go.Proofs.Ytokehhegomiciaa
