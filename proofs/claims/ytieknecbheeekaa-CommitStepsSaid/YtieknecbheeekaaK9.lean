/- A machine: made, Left, Step, New: the walks. -/
import Derived.Test.YtieknecbheeekaaK8
set_option linter.unusedVariables false
set_option linter.unusedSimpArgs false
namespace Go.Proofs.Ytieknecbheeekaa
open Go.RowKit Go.Maps

theorem mmade_yes {w : World} {M C : Nat} (h : w.cell? ⟨M, 0, none⟩ = some (.pointer (some ⟨C, 0, none⟩))) : Calls Try.prog 31 #[.pointer (some ⟨M, 0, none⟩)] w fun e w' => e = .returned (.bool true) ∧ w = w' := by
  go_enter Try.func31, Try.ntmps31
  go_wp2
  go_ret
  exact ⟨rfl, rfl⟩
theorem IsMach.cell0 {w : World} {M C : Nat} {W : List Nat} {l : List AT} (h : IsMach w M C W l) : w.cell? ⟨M, 0, none⟩ = some (.pointer (some ⟨C, 0, none⟩)) := by
  obtain ⟨g, v, nv, h⟩ := h
  exact cell_at h.obj 0
theorem mleft_ok {w : World} {M C : Nat} {W : List Nat} {l : List AT} (h : IsMach w M C W l) : Calls Try.prog 13 #[.pointer (some ⟨M, 0, none⟩)] w fun e w' => e = .returned (.int .i64 (l.length : Int)) ∧ w = w' := by
  have HM := Lib.hid (mmade_yes h.cell0)
  obtain ⟨g, v, nv, h⟩ := h
  obtain ⟨a, cap, rfl, _⟩ := h.acts
  have c1 := cell_at h.obj 1
  clear h
  go_enter Try.func13, Try.ntmps13
  go_wp2_with fail
  refine HM.out.mono ?_
  rintro e w' ⟨rfl, rfl⟩
  go_wp2_with fail
  go_ret
  exact ⟨rfl, rfl⟩
#print axioms mleft_ok
theorem mstep_done {w : World} {M C : Nat} {W : List Nat} (h : IsMach w M C W []) : Calls Try.prog 14 #[.pointer (some ⟨M, 0, none⟩)] w fun e w' => e = .returned (.tuple #[.bool true, .int .i64 0]) ∧ w = w' := by
  have HM := Lib.hid (mmade_yes h.cell0)
  obtain ⟨g, v, nv, h⟩ := h
  obtain ⟨a, cap, hv, _⟩ := h.acts
  rw [List.length_nil] at hv
  subst hv
  have c1 := cell_at h.obj 1
  clear h
  go_enter Try.func14, Try.ntmps14
  go_wp2_with fail
  refine HM.out.mono ?_
  rintro e w' ⟨rfl, rfl⟩
  go_wp2_with fail
  go_ret2
  exact ⟨rfl, rfl⟩
#print axioms mstep_done
/-- a cache and a machine over it, apart -/
structure CM (w : World) (C B M : Nat) (U W : List Nat) (n : Nat) (s : CS) (l : List AT) : Prop where
  cache : IsCache w C B U n s
  mach : IsMach w M C W l
  apart : ∀ k ∈ W, k ∉ U
/-- a call of a function with a body enters it -/
theorem run_enter {P : Program} {f : FuncId} {fn : Func} {c : Code} (hf : P.funcs[f]? = some fn) (hname : (fn.name == "runtime.NumGoroutine") = false) (hb : fn.body = some c) (args : Array Value) (w : World) : (callFunc f args).run P w = .ok (.enter f args) w := by
  have h1 : fn.name ≠ "runtime.NumGoroutine" := by simpa using hname
  simp [callFunc, hf, h1, hb, mark]
/-- the next thing is done: what is called -/
def NextCalls (w : World) (C B : Nat) (U : List Nat) (n : Nat) (s : CS) (p : AT) (nv : Value) : Prop :=
  ∃ f caps, nv = .func (.func f) #[] caps ∧ (∀ args w', (callFunc f args).run Try.prog w' = .ok (.enter f args) w') ∧ Calls Try.prog f caps w (ActPost C B U n s p w)
theorem CM.next {w : World} {C B M : Nat} {U W : List Nat} {n : Nat} {s : CS} {p : AT} {r : List AT} {g : Nat} {v nv : Value} (hc : IsCache w C B U n s) (hm : MParts w M C g W (p :: r) v nv) (hn : n ≤ 1000000) (hl : Lim s) : NextCalls w C B U n s p nv := by
  have h0 := cell_at hm.obj 0
  have hnx := hm.next p r rfl
  have ha := hm.acts
  obtain ⟨a, cap, rfl, _⟩ := hm.acts
  obtain ⟨_, o, _, _, _, hx⟩ := ha.first
  unfold NextIs at hnx
  by_cases c1 : p.k = 1
  · rw [if_pos c1] at hnx
    obtain ⟨bM, bA, rfl, _, _, hb, hA⟩ := hnx
    refine ⟨_, _, rfl, run_enter Try.func38 (by kernel_rfl) rfl, (ready1_ok hc hn hl hb h0 hA).mono ?_⟩
    rintro e w' ⟨he, U', h1, h2, h3⟩
    have e1 : s.act p = (s.bk p.b, s.bkS p.b) := if_pos c1
    exact ⟨by rw [e1]; exact he, U', by rw [e1]; exact h1, h2, h3⟩
  · rw [if_neg c1] at hnx
    by_cases c2 : p.k = 2
    · rw [if_pos c2] at hnx
      obtain ⟨bM, bA, rfl, _, _, hb, hA⟩ := hnx
      refine ⟨_, _, rfl, run_enter Try.func40 (by kernel_rfl) rfl, (ready2_ok hc hl hx hb h0 hA).mono ?_⟩
      rintro e w' ⟨he, U', h1, h2, h3⟩
      have e1 : s.act p = (s.d.why p.b, { s with d := s.d.tried p.b p.x }) := by unfold CS.act; rw [if_neg c1, if_pos c2]
      exact ⟨by rw [e1]; exact he, U', by rw [e1]; exact h1, h2, h3⟩
    · rw [if_neg c2] at hnx
      by_cases c3 : p.k = 3
      · rw [if_pos c3] at hnx
        obtain ⟨bM, rfl, _, hb⟩ := hnx
        refine ⟨_, _, rfl, run_enter Try.func42 (by kernel_rfl) rfl, (ready3_ok hc hl hb h0).mono ?_⟩
        rintro e w' ⟨he, U', h1, h2, h3⟩
        have e1 : s.act p = (if s.d.dead then (30, s) else (0, { s with d := s.d.flushed })) := by unfold CS.act; rw [if_neg c1, if_neg c2, if_pos c3]
        refine ⟨by rw [e1]; cases hd : s.d.dead <;> simpa [hd] using he, U', ?_, h2, h3⟩
        rw [e1]
        cases hd : s.d.dead <;> simpa [hd] using h1
      · rw [if_neg c3] at hnx
        subst hnx
        have e1 : s.act p = (2, s) := by unfold CS.act; rw [if_neg c1, if_neg c2, if_neg c3]
        refine ⟨_, _, rfl, run_enter Try.func44 (by kernel_rfl) rfl, ?_⟩
        have HC := Lib.hid hc
        have HE := Lib.hid e1
        clear hc hm h0 ha hx e1 hl c1 c2 c3
        go_enter Try.func44, Try.ntmps44
        go_wp2_with fail
        go_ret
        exact ⟨by rw [HE.out]; rfl, U, by rw [HE.out]; exact HC.out.more, Touch.refl _ _, fun k hk => .inl hk⟩
#print axioms CM.next
/-- what a step leaves of the actions -/
def leftOf (c : Int) (l : List AT) : List AT := if c = 0 then l.tail else l
def StepPost (C B M : Nat) (U W : List Nat) (n : Nat) (s : CS) (p : AT) (r : List AT) (w : World) (e : Ending) (w' : World) : Prop :=
  e = .returned (.tuple #[.bool (decide ((s.act p).1 = 0 ∧ r = [])), .int .i64 (s.act p).1]) ∧
  ∃ U' W', CM w' C B M U' W' (n + 1) (s.act p).2 (leftOf (s.act p).1 (p :: r)) ∧ Touch (U ++ W) w w' ∧ ∀ k ∈ U' ++ W', k ∈ U ++ W ∨ w.heap.size ≤ k
theorem Acts.tail {w : World} {g : Nat} {a : Option Addr} {n cap : Nat} {p : AT} {r : List AT} (h : Acts w g (.slice a n cap) (p :: r)) : Acts w g (sliced a 1 n cap 258) r := by
  obtain ⟨a', cap', hv, hc, hi⟩ := h
  injection hv with e1 e2 e3
  subst e1 e2 e3
  rw [List.length_cons] at hc
  unfold Go.sliced
  refine ⟨_, _, by rw [List.length_cons]; rfl, by omega, fun j q hj => ?_⟩
  obtain ⟨o, h1, h2, h3, h4⟩ := hi (j + 1) q (by simpa using hj)
  have hjl := (List.getElem?_eq_some_iff.1 hj).1
  refine ⟨o + 258, ?_, h2, ?_, h4⟩
  · rw [if_neg (by omega), h1]
    show some ((⟨g, o, none⟩ : Addr).add (1 * 258)) = some _
    rw [Addr.add_mid]
  · rw [show o + 258 + j * 258 = o + (j + 1) * 258 by omega]; exact h3
end Go.Proofs.Ytieknecbheeekaa
