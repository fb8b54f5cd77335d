/- The law ChkptDrains, plainly: what is left, and what of the list is gone. -/
import Derived.Test.YtokehhegomiciaaH23
set_option linter.unusedVariables false
set_option linter.unusedSimpArgs false
namespace Go.Proofs.Ytokehhegomiciaa
open Go.RowKit Go.Maps

def hdrT (t : CT) : Nat × Int × Int := (t.seq, t.start, t.count)
def hdrA (x : AV) : Nat × Int × Int := (x.seq, x.start, x.count)
theorem hdr_forget (l : List CT) (b : Int) : (l.map (CT.forget b)).map hdrT = l.map hdrT := by rw [List.map_map]; rfl
theorem hdr_forgets (rs : List Int) : ∀ s : CS, (rs.foldl (fun (s : CS) b => s.forget b) s).all.map hdrT = s.all.map hdrT := by
  induction rs with
  | nil => intro s; rfl
  | cons b rs ih => intro s; rw [List.foldl_cons, ih]; exact hdr_forget _ _
theorem hdr_addC (s : CS) (seq : Nat) (cs : List Cp) (rs : List Int) (start count : Int) : (addC s seq cs rs start count).all.map hdrT = s.all.map hdrT ++ [(seq, start, count)] := by
  unfold addC
  show List.map hdrT (rs.foldl (fun (s : CS) b => s.forget b) _).all = _
  rw [hdr_forgets, List.map_append]; rfl
theorem hdr_run (g : G4) (l : List AV) : (runA g l).1.all.map hdrT = (runA g l).2.map hdrA := by
  suffices ∀ (l : List AV) (p : CS × List AV), p.1.all.map hdrT = p.2.map hdrA → (l.foldl (stepA g) p).1.all.map hdrT = (l.foldl (stepA g) p).2.map hdrA from this l _ rfl
  intro l
  induction l with
  | nil => intro p h; exact h
  | cons x l ih =>
    intro p h
    rw [List.foldl_cons]
    refine ih _ ?_
    unfold stepA
    split
    · rw [hdr_addC, List.map_append, h]; rfl
    · exact h
theorem leftP_forget (l : List CT) (a b : Int) : leftP (l.map (CT.forget a)) b = (decide (b ≠ a) && leftP l b) := by
  rw [leftP_get, leftP_get, getC_forget]
  by_cases h : b = a
  · rw [if_pos h, decide_eq_false (by simpa using h)]; rfl
  · rw [if_neg h, decide_eq_true (by simpa using h)]; rfl
theorem countP_one {p q : Int → Bool} {a : Int} : ∀ {zs : List Int}, zs.Nodup → a ∈ zs → p a = false → q a = true → (∀ z, z ≠ a → q z = p z) → zs.countP q = zs.countP p + 1 := by
  intro zs
  induction zs with
  | nil => intro _ h; cases h
  | cons z zs ih =>
    intro hn ha hp hq he
    rw [List.nodup_cons] at hn
    rw [List.countP_cons, List.countP_cons]
    by_cases e : z = a
    · subst e
      rw [hp, hq, List.countP_congr (p := q) (q := p) (fun x hx => by rw [he x (fun h => hn.1 (h ▸ hx))])]
      simp
    · have : a ∈ zs := by rcases List.mem_cons.1 ha with h | h; · exact absurd h.symm e
                          · exact h
      rw [ih hn.2 this hp hq he, he z e]
      omega
/-- a list that is being emptied: W blocks written, H heads moved on -/
structure DInv (s0 : CS) (zs : List Int) (tk : List AV) (s : CS) (W H : Nat) : Prop where
  hd : s.all.map hdrT = (tk.drop H).map hdrA
  le : H ≤ tk.length
  w : W = zs.countP (fun z => !leftP s.all z)
  sub : ∀ z, leftP s.all z = true → z ∈ zs ∧ getC s.all z = getC s0.all z
theorem DInv.start {s0 : CS} {zs : List Int} {tk : List AV} (h : Rising (leftP s0.all) zs) (hh : s0.all.map hdrT = tk.map hdrA) : DInv s0 zs tk s0 0 0 :=
  ⟨by rw [List.drop_zero]; exact hh, Nat.zero_le _, (List.countP_eq_zero.2 fun z hz => by rw [(h.mem z).1 hz]; decide).symm, fun z hz => ⟨(h.mem z).2 hz, rfl⟩⟩
theorem DInv.wle {s0 : CS} {zs : List Int} {tk : List AV} {s : CS} {W H : Nat} (h : DInv s0 zs tk s W H) : W ≤ zs.length := by rw [h.w]; exact List.countP_le_length
theorem DInv.write {s0 : CS} {zs : List Int} {tk : List AV} {s : CS} {W H : Nat} (h : DInv s0 zs tk s W H) (hn : zs.Nodup) {t : CT} {r : List CT} {c : Cp} {l : List Cp} (hs : s.all = t :: r) (hl : t.left = c :: l) :
    c.1 ∈ zs ∧ getC s.all c.1 = getC s0.all c.1 ∧ leftP s.all c.1 = true ∧ DInv s0 zs tk (s.forget c.1) (W + 1) H := by
  have h1 : leftP s.all c.1 = true := by
    rw [hs]
    unfold leftP
    rw [List.any_cons, hl]
    have : findC (c :: l) c.1 = some c := by unfold findC; rw [List.find?_cons_of_pos (by simp)]
    rw [this]; rfl
  obtain ⟨h2, h3⟩ := h.sub _ h1
  refine ⟨h2, h3, h1, ?_⟩
  refine ⟨(hdr_forget _ _).trans h.hd, h.le, ?_, fun z hz => ?_⟩
  · rw [h.w]
    refine (countP_one (a := c.1) hn h2 (by rw [h1]; rfl) ?_ fun z hz => ?_).symm
    · show (!leftP (s.all.map (CT.forget c.1)) c.1) = true
      rw [leftP_forget]; simp
    · show (!leftP (s.all.map (CT.forget c.1)) z) = _
      rw [leftP_forget, decide_eq_true hz]; rfl
  · have hz' : leftP (s.all.map (CT.forget c.1)) z = true := hz
    rw [leftP_forget, Bool.and_eq_true, decide_eq_true_iff] at hz'
    refine ⟨(h.sub z hz'.2).1, ?_⟩
    show getC (s.all.map (CT.forget c.1)) z = _
    rw [getC_forget, if_neg hz'.1]
    exact (h.sub z hz'.2).2
theorem DInv.head {s0 : CS} {zs : List Int} {tk : List AV} {s : CS} {W H : Nat} (h : DInv s0 zs tk s W H) {t : CT} {r : List CT} (hs : s.all = t :: r) (hl : t.left = []) :
    ∃ x, tk[H]? = some x ∧ hdrT t = hdrA x ∧ r.map hdrT = (tk.drop (H + 1)).map hdrA ∧ DInv s0 zs tk { s with all := r } W (H + 1) := by
  have h0 := h.hd
  rw [hs, List.map_cons] at h0
  have hlt : H < tk.length := by
    apply Nat.lt_of_not_ge
    intro hge
    rw [List.drop_eq_nil_of_le hge] at h0
    cases h0
  rw [List.drop_eq_getElem_cons hlt, List.map_cons] at h0
  injection h0 with e1 e2
  have hg : ∀ z, getC r z = getC s.all z := fun z => by rw [hs, getC, hl]; show _ = (getC r z).or none; rw [Option.or_none]
  have hp : ∀ z, leftP r z = leftP s.all z := fun z => by rw [leftP_get, leftP_get, hg]
  refine ⟨tk[H], List.getElem?_eq_getElem hlt, e1, e2, ⟨e2, hlt, ?_, fun z hz => ?_⟩⟩
  · rw [h.w]
    exact List.countP_congr fun z _ => by show _ = true ↔ (!leftP r z) = true; rw [hp]
  · have hz' : leftP r z = true := hz
    rw [hp] at hz'
    obtain ⟨a, b⟩ := h.sub z hz'
    exact ⟨a, (hg z).trans b⟩
theorem DInv.none {s0 : CS} {zs : List Int} {tk : List AV} {s : CS} {W H : Nat} (h : DInv s0 zs tk s W H) (hs : s.all = []) : W = zs.length ∧ H = tk.length := by
  constructor
  · rw [h.w]
    refine List.countP_eq_length.2 fun z _ => ?_
    rw [hs]; rfl
  · have h0 := h.hd
    rw [hs] at h0
    have h1 := congrArg List.length h0
    simp only [List.map_nil, List.length_nil, List.length_map, List.length_drop] at h1
    have := h.le
    omega
theorem DInv.done {s0 : CS} {zs : List Int} {tk : List AV} {s : CS} {W H : Nat} (h : DInv s0 zs tk s W H) (hw : W + H = zs.length + tk.length) : W = zs.length ∧ H = tk.length ∧ s.all = [] := by
  have h1 := h.wle
  have h2 := h.le
  have h3 : H = tk.length := by omega
  refine ⟨by omega, h3, ?_⟩
  have h0 := h.hd
  rw [List.drop_eq_nil_of_le (by omega)] at h0
  exact List.map_eq_nil_iff.1 h0
#print axioms DInv.done
end Go.Proofs.Ytokehhegomiciaa
