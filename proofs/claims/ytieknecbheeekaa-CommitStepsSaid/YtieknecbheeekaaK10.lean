/- A machine: Step: the walk. -/
import Derived.Test.YtieknecbheeekaaK9
set_option linter.unusedVariables false
set_option linter.unusedSimpArgs false
namespace Go.Proofs.Ytieknecbheeekaa
open Go.RowKit Go.Maps

theorem MParts.tail {w : World} {M C g : Nat} {W : List Nat} {p : AT} {r : List AT} {a : Option Addr} {n cap : Nat} {nv : Value} (h : MParts w M C g W (p :: r) (.slice a n cap) nv) : MBare (w.setCell ⟨M, 1, none⟩ (sliced a 1 n cap 258)) M C g W r (sliced a 1 n cap 258) := by
  have ht : Touch [M] w (w.setCell ⟨M, 1, none⟩ (sliced a 1 n cap 258)) := Touch.setCell w (by simp) _
  exact {
    obj := ⟨nv, by rw [heap_set h.obj 1 _]; rfl⟩
    acts := h.acts.tail.kept ht (by simpa using fun e => h.mg e.symm)
    mW := h.mW
    gW := h.gW
    mg := h.mg
    lt := fun k hk => by simpa using h.lt k hk }
/-- a slice from an element on, in a walk -/
theorem wpList_slice_l {P : Program} {ops : Array Oper} {rest : List Oper} {o : Oper} {a : Act} {w : World} {Q : Exit → Act → World → Prop} (hgd : o.guard = none) (t : TypeId) (x y : Operand) (ho : o.op = .slice t x (some y) none none) {e : TypeId} (ht : P.underlying t = some (.slice e)) (i : TypeInfo) (hi : P.info? e = some i) (sz : Nat) (hs : i.size = sz) (ad : Option Addr) (n cap k : Nat) (hx : a.eval x = .slice ad n cap) (hy : a.eval y = .int .i64 (k : Int)) (hk : k ≤ n)
    (hK : wpList P ops Q rest (a.put o.dst (sliced ad k n cap sz)) w) : wpList P ops Q (o :: rest) a w := by
  have he : P.elem t = e := by unfold Program.elem; rw [ht]
  have ht' : P.underlying t = some (.slice (P.elem t)) := by rw [he]; exact ht
  refine wpList_plain hgd fun K' hK' => ?_
  have hrun : (execOp a.eval o).run P w = .ok (.value (sliced ad k n cap sz)) w := by
    unfold execOp
    have h1 := run_sliceAt_slice (P := P) w t (.slice ad n cap) (some (.int .i64 (k : Int))) none none ht'
    have h2 := run_slice_l (P := P) w t ad n cap ht' .i64 (k : Int) (by omega) (by omega)
    have h3 : (sizeOf (P.elem t)).run P w = .ok sz w := by rw [he]; simp [sizeOf, typeInfo, hi, hs]
    rw [h3] at h2
    simp only [ho, hx, hy, Sem.run_bind, Option.map_some, Option.map_none, h1, h2, Result.andThen_ok, Sem.run_pure, Int.toNat_natCast]
  unfold Oper.wp
  rw [hrun]
  exact hK' _ _ hK
set_option maxRecDepth 100000 in
set_option maxHeartbeats 4000000 in
theorem mstep_ok {w : World} {C B M : Nat} {U W : List Nat} {n : Nat} {s : CS} {p : AT} {r : List AT} (h : CM w C B M U W n s (p :: r)) (hn : n ≤ 1000000) (hl : Lim s) (hr : r.length ≤ 1000000) :
    Calls Try.prog 14 #[.pointer (some ⟨M, 0, none⟩)] w (StepPost C B M U W n s p r w) := by
  have HC := Lib.hid h.cache
  have HAP := Lib.hid h.apart
  have HM := Lib.hid (mmade_yes h.mach.cell0)
  obtain ⟨g, v, nv, hm⟩ := h.mach
  obtain ⟨a, cap, hv, hcap, _⟩ := hm.acts
  rw [List.length_cons] at hv
  subst hv
  have HP := Lib.hid hm
  have c1 := cell_at hm.obj 1
  have c2 := cell_at hm.obj 2
  obtain ⟨f, caps, rfl, hent, hcall⟩ := CM.next h.cache hm hn hl
  have HN := Lib.hid hcall
  have HR := Lib.hid hr
  have HCap := Lib.hid hcap
  obtain ⟨m, hmm⟩ : ∃ m, m = r.length := ⟨_, rfl⟩
  simp only [List.getElem?_toArray, List.getElem?_cons_zero, List.getElem?_cons_succ] at c1 c2
  rw [← hmm] at c1 HP hr
  have HMM := Lib.hid hmm
  have n0 : (((m + 1 : Nat) : Int) == 0) = false := by simp; omega
  generalize hm1 : m + 1 = m1 at *
  have HM1 := Lib.hid hm1
  clear h hm hcall hcap hmm hm1 hl
  go_enter Try.func14, Try.ntmps14
  go_wp2_with fail
  refine HM.out.mono ?_
  rintro e w' ⟨rfl, rfl⟩
  go_wp2_with fail
  refine HN.out.mono ?_
  intro e w2 hpost
  obtain ⟨he, U', h1, h2, h3⟩ := hpost
  subst he
  have hp2 := HP.out.kept h2 HAP.out
  have HP2 := Lib.hid hp2
  have HC2 := Lib.hid h1
  have HT2 := Lib.hid h2
  have HS2 := Lib.hid h3
  have HAP2 := Lib.hid (show ∀ k ∈ W, k ∉ U' from fun k hk hm => by
    rcases h3 k hm with h | h
    · exact HAP.out k hk h
    · have := HP.out.lt k hk; omega)
  clear h1 h2 h3 c1 c2
  by_cases hz : (s.act p).1 = 0
  · have HZ := Lib.hid hz
    rw [hz]
    have c1 := cell_at hp2.obj 1
    have f1 := frozen_at hp2.obj 1
    simp only [List.getElem?_toArray, List.getElem?_cons_zero, List.getElem?_cons_succ] at c1
    have HB := Lib.hid hp2.tail
    have d1 := cell_at (HB.out.obj.choose_spec) 1
    simp only [List.getElem?_toArray, List.getElem?_cons_zero, List.getElem?_cons_succ] at d1
    have HRD := Lib.hid (ready_any HB.out HR.out)
    have HTT := Lib.hid (show Touch (U ++ W) w (w2.setCell ⟨M, 1, none⟩ (sliced a 1 m1 cap 258)) from (HT2.out.mono (fun i hi => .inl (by simp [hi]))).trans (Touch.setCell (S := [M]) w2 (by simp) _) (fun k hk => .inl (by rw [List.mem_singleton.1 hk]; simp [HP.out.mW])))
    have HC3 := Lib.hid (HC2.out.kept (Touch.setCell (S := [M]) (a := ⟨M, 1, none⟩) w2 (by simp) (sliced a 1 m1 cap 258)) (fun k hk hm => HAP2.out M HP.out.mW (List.mem_singleton.1 hm ▸ hk)))
    obtain ⟨a2, c2, hvs, _⟩ := HP.out.acts.tail
    have HVS := Lib.hid hvs
    have m1le : (1 : Nat) ≤ m1 := by have := HM1.out; omega
    have HLE := Lib.hid m1le
    obtain ⟨i0, hi, hz0, hz1, hz2⟩ := info_parts infoA
    have HI0 := Lib.hid hi
    have HZ1 := Lib.hid hz1
    rw [hvs] at d1 HRD HTT HC3 HB
    have HL := Lib.hid (show leftOf (s.act p).1 (p :: r) = r from if_pos hz)
    rw [← HMM.out] at d1 HRD HTT HC3 HVS HB
    have HE := Lib.hid (show ((m : Int) == 0) = decide ((s.act p).1 = 0 ∧ r = []) by
      rw [hz, HMM.out]
      cases r with
      | nil => rfl
      | cons q r => rw [List.length_cons]; simp; omega)
    clear hz hp2 hi hz0 hz1 hz2 hvs
    go_upto_region 9 with (refine wpList_slice_l rfl 23 _ _ rfl Try.underlying23 i0 HI0.out 258 HZ1.out a m1 cap 1 rfl rfl HLE.out ?_; rw [HVS.out])
    generalize w2.setCell ⟨M, 1, none⟩ (.slice a2 m c2) = w3 at *
    go_wp2_with fail
    refine HRD.out.mono ?_
    intro e w4 hpost
    obtain ⟨⟨u, he⟩, nv, W', h1, h2, h3, h4⟩ := hpost
    subst he
    have f1 := cell_at h1.obj 1
    simp only [List.getElem?_toArray, List.getElem?_cons_zero, List.getElem?_cons_succ] at f1
    have HP4 := Lib.hid h1
    have HT4 := Lib.hid h2
    have HS4 := Lib.hid h3
    clear h1 h2 h3 h4 c1 d1
    go_wp2_with fail
    go_ret2
    have hlt3 := HC3.out.lt
    refine ⟨?_, U', W', ⟨HC3.out.kept HT4.out (fun k hk hm => HAP2.out M HP.out.mW (List.mem_singleton.1 hm ▸ hk)), by rw [HL.out]; exact ⟨g, _, _, HP4.out⟩, fun k hk hm => ?_⟩, HTT.out.trans HT4.out (fun k hk => .inl (by rw [List.mem_singleton.1 hk]; simp [HP.out.mW])), fun k hk => ?_⟩
    · rw [← HE.out, HZ.out]; rfl
    · rcases HS4.out k hk with h | h
      · exact HAP2.out k h hm
      · have := hlt3 k hm; omega
    · rcases List.mem_append.1 hk with h | h
      · rcases HS2.out k h with h | h
        · exact .inl (by simp [h])
        · exact .inr h
      · rcases HS4.out k h with h | h
        · exact .inl (by simp [h])
        · exact .inr (Nat.le_trans HTT.out.size h)
  · have HZ := Lib.hid hz
    have e1 : ((s.act p).1 == 0) = false := by simpa using hz
    have HE := Lib.hid (show decide ((s.act p).1 = 0 ∧ r = []) = false by simp [hz])
    have HL := Lib.hid (show leftOf (s.act p).1 (p :: r) = p :: r from if_neg hz)
    clear hz hp2
    go_wp2_with fail
    go_ret2
    refine ⟨by rw [HE.out]; rfl, U', W, ⟨HC2.out, by rw [HL.out]; exact ⟨g, _, _, HP2.out⟩, HAP2.out⟩, HT2.out.mono (fun i hi => .inl (by simp [hi])), ?_⟩
    intro k hk
    rcases List.mem_append.1 hk with h | h
    · rcases HS2.out k h with h | h
      · exact .inl (by simp [h])
      · exact .inr h
    · exact .inl (by simp [h])
#print axioms mstep_ok
end Go.Proofs.Ytieknecbheeekaa
