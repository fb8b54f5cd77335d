/- The law ChkptSame, plainly: what recovery makes of an image and the transactions that are there. -/
import Derived.Test.YtokehhegomiciaaH29
set_option linter.unusedVariables false
set_option linter.unusedSimpArgs false
namespace Go.Proofs.Ytokehhegomiciaa
open Go.RowKit Go.Maps

/-- is a block revoked by one of them -/
def revd (l : List AV) (b : Int) : Bool := l.any fun x => decide (b ∈ x.rs)
/-- the copy that counts -/
def cntR : List AV → Int → Option Cp
  | [], _ => none
  | x :: r, b => (cntR r b).or (if revd (x :: r) b then none else findC x.cs b)
theorem revd_cons (x : AV) (r : List AV) (b : Int) : revd (x :: r) b = (decide (b ∈ x.rs) || revd r b) := rfl
theorem revd_append (l : List AV) (x : AV) (b : Int) : revd (l ++ [x]) b = (revd l b || decide (b ∈ x.rs)) := by unfold revd; rw [List.any_append]; simp
theorem cntR_append (l : List AV) (x : AV) (b : Int) : cntR (l ++ [x]) b = if b ∈ x.rs then none else (findC x.cs b).or (cntR l b) := by
  induction l with
  | nil =>
    rw [List.nil_append, cntR, cntR, revd_cons]
    by_cases h : b ∈ x.rs
    · rw [if_pos h, decide_eq_true h]; rfl
    · rw [if_neg h, decide_eq_false h]; cases findC x.cs b <;> rfl
  | cons y l ih =>
    rw [List.cons_append, cntR, ih, cntR, revd_cons, revd_cons, revd_append]
    by_cases h : b ∈ x.rs
    · rw [if_pos h, if_pos h, decide_eq_true h]
      simp
    · rw [if_neg h, if_neg h, decide_eq_false h, Option.or_assoc]
      simp
/-- of what comes behind, a block that is there is decided -/
theorem cntR_decides {l : List AV} {b : Int} (h : ∃ x ∈ l, (findC x.cs b).isSome = true) (hn : cntR l b = none) : revd l b = true := by
  induction l with
  | nil => obtain ⟨x, hx, _⟩ := h; cases hx
  | cons y l ih =>
    rw [cntR, Option.or_eq_none_iff] at hn
    obtain ⟨h1, h2⟩ := hn
    cases e : revd (y :: l) b with
    | true => rfl
    | false =>
      rw [e] at h2
      simp only [Bool.false_eq_true, if_false] at h2
      obtain ⟨x, hx, hf⟩ := h
      rcases List.mem_cons.1 hx with rfl | hx
      · rw [h2] at hf; cases hf
      · have := ih ⟨x, hx, hf⟩ h1
        rw [revd_cons, this, Bool.or_true] at e
        cases e

/-! ### recovery, as the document's program does it -/
def recCs (l : List AV) (cs : List Cp) (out : List Blk) : List Blk := cs.foldl (fun (o : List Blk) (c : Cp) => if 0 ≤ c.1 ∧ c.1 < (o.length : Int) ∧ revd l c.1 = false then o.set c.1.toNat c.2 else o) out
def recov : List AV → List Blk → List Blk
  | [], out => out
  | x :: r, out => recov r (recCs (x :: r) x.cs out)
theorem recCs_len (l : List AV) : ∀ (cs : List Cp) (out : List Blk), (recCs l cs out).length = out.length := by
  intro cs
  induction cs with
  | nil => intro out; rfl
  | cons c cs ih =>
    intro out
    unfold recCs at ih ⊢
    rw [List.foldl_cons, ih]
    split
    · rw [List.length_set]
    · rfl
theorem recov_len : ∀ (l : List AV) (out : List Blk), (recov l out).length = out.length := by
  intro l
  induction l with
  | nil => intro out; rfl
  | cons x r ih => intro out; rw [recov, ih, recCs_len]
theorem recCs_get (l : List AV) : ∀ (cs : List Cp) (out : List Blk), (cs.map (·.1)).Pairwise (· < ·) → ∀ i, i < out.length → (recCs l cs out)[i]? = if revd l (i : Int) = true then out[i]? else match findC cs (i : Int) with
    | some c => some c.2
    | none => out[i]? := by
  intro cs
  induction cs with
  | nil => intro out _ i hi; simp [recCs, findC]
  | cons c cs ih =>
    intro out hl i hi
    rw [List.map_cons, List.pairwise_cons] at hl
    have h0 := ih (if 0 ≤ c.1 ∧ c.1 < out.length ∧ revd l c.1 = false then out.set c.1.toNat c.2 else out) hl.2 i (by split <;> simpa using hi)
    have h1 : recCs l (c :: cs) out = recCs l cs (if 0 ≤ c.1 ∧ c.1 < out.length ∧ revd l c.1 = false then out.set c.1.toNat c.2 else out) := rfl
    rw [h1, h0]
    by_cases hr : revd l (i : Int) = true
    · rw [if_pos hr, if_pos hr]
      split
      · rename_i hc
        rw [List.getElem?_set_ne]
        intro e
        have : c.1 = (i : Int) := by omega
        rw [this, hr] at hc
        cases hc.2.2
      · rfl
    · rw [if_neg hr, if_neg hr]
      have hr2 : revd l (i : Int) = false := by simpa using hr
      by_cases hc : c.1 = (i : Int)
      · have hf : findC cs (i : Int) = none := by
          unfold findC
          rw [List.find?_eq_none]
          intro d hd
          have := hl.1 d.1 (List.mem_map_of_mem hd)
          simp only [decide_eq_true_iff]
          omega
        rw [hf]
        have hf2 : findC (c :: cs) (i : Int) = some c := by unfold findC; rw [List.find?_cons_of_pos (by simpa using hc)]
        rw [hf2, if_pos ⟨by omega, by omega, by rw [hc]; exact hr2⟩]
        have hn : c.1.toNat = i := by omega
        rw [hn, List.getElem?_set_self hi]
      · have hf2 : findC (c :: cs) (i : Int) = findC cs (i : Int) := by unfold findC; rw [List.find?_cons_of_neg (by simpa using hc)]
        rw [hf2]
        have : (if 0 ≤ c.1 ∧ c.1 < out.length ∧ revd l c.1 = false then out.set c.1.toNat c.2 else out)[i]? = out[i]? := by
          split
          · rw [List.getElem?_set_ne]
            omega
          · rfl
        rw [this]
theorem recov_get : ∀ (l : List AV) (out : List Blk), (∀ x ∈ l, (x.cs.map (·.1)).Pairwise (· < ·)) → ∀ i, i < out.length → (recov l out)[i]? = match cntR l (i : Int) with
    | some c => some c.2
    | none => out[i]? := by
  intro l
  induction l with
  | nil => intro out _ i hi; rfl
  | cons x r ih =>
    intro out hl i hi
    rw [recov, ih _ (fun y hy => hl y (List.mem_cons_of_mem _ hy)) i (by rw [recCs_len]; exact hi), recCs_get _ _ _ (hl x (List.mem_cons_self ..)) i hi, cntR]
    cases e : cntR r (i : Int) with
    | some c => rfl
    | none =>
      rw [Option.none_or]
      cases h1 : revd (x :: r) (i : Int) with
      | true => rfl
      | false => rfl
theorem recov_same {l l' : List AV} {o o' : List Blk} (hl : ∀ x ∈ l, (x.cs.map (·.1)).Pairwise (· < ·)) (hl' : ∀ x ∈ l', (x.cs.map (·.1)).Pairwise (· < ·)) (hn : o'.length = o.length)
    (h : ∀ i, i < o.length → (match cntR l' (i : Int) with | some c => some c.2 | none => o'[i]?) = (match cntR l (i : Int) with | some c => some c.2 | none => o[i]?)) : recov l' o' = recov l o := by
  apply List.ext_getElem?
  intro i
  by_cases hi : i < o.length
  · rw [recov_get l' o' hl' i (by omega), recov_get l o hl i hi, h i hi]
  · rw [List.getElem?_eq_none (by rw [recov_len]; omega), List.getElem?_eq_none (by rw [recov_len]; omega)]

/-! ### the list, the transactions that are there, and the image -/
def hdr4 (t : CT) : (Nat × Int × Int) × List Cp := (hdrT t, t.cs)
def hdr4A (x : AV) : (Nat × Int × Int) × List Cp := (hdrA x, x.cs)
structure SInv (g : G4) (s : CS) (th : List AV) (im : List Blk) : Prop where
  hd : s.all.map hdr4 = th.map hdr4A
  ok : ∀ t ∈ s.all, t.ok
  ing : ∀ x ∈ th, ∀ c ∈ x.cs, inG g c.1
  a : ∀ b c, getC s.all b = some c → cntR th b = some c
  b : ∀ b c, getC s.all b = none → cntR th b = some c → 0 ≤ b → im[b.toNat]? = some c.2
theorem SInv.okA {g : G4} {s : CS} {th : List AV} {im : List Blk} (h : SInv g s th im) : ∀ x ∈ th, (x.cs.map (·.1)).Pairwise (· < ·) ∧ ∀ c ∈ x.cs, CpOk c ∧ 0 ≤ c.1 := by
  intro x hx
  have h1 : hdr4A x ∈ s.all.map hdr4 := by rw [h.hd]; exact List.mem_map_of_mem hx
  obtain ⟨t, ht, e⟩ := List.mem_map.1 h1
  have : t.cs = x.cs := congrArg Prod.snd e
  rw [← this]
  exact ⟨(h.ok t ht).lt, (h.ok t ht).cs⟩
theorem SInv.riseA {g : G4} {s : CS} {th : List AV} {im : List Blk} (h : SInv g s th im) : ∀ x ∈ th, (x.cs.map (·.1)).Pairwise (· < ·) := fun x hx => (h.okA x hx).1
theorem SInv.start (g : G4) (im : List Blk) : SInv g ⟨false, 0, []⟩ [] im := ⟨rfl, (fun t ht => (by cases ht)), (fun t ht => (by cases ht)), (fun b c h => (by cases h)), (fun b c _ h => (by cases h))⟩
theorem hd4_forget (l : List CT) (b : Int) : (l.map (CT.forget b)).map hdr4 = l.map hdr4 := by rw [List.map_map]; rfl
theorem hd4_forgets (rs : List Int) : ∀ s : CS, (rs.foldl (fun (s : CS) b => s.forget b) s).all.map hdr4 = s.all.map hdr4 := by
  induction rs with
  | nil => intro s; rfl
  | cons b rs ih => intro s; rw [List.foldl_cons, ih]; exact hd4_forget _ _
theorem hd4_addC (s : CS) (seq : Nat) (cs : List Cp) (rs : List Int) (start count : Int) : (addC s seq cs rs start count).all.map hdr4 = s.all.map hdr4 ++ [((seq, start, count), cs)] := by
  unfold addC
  show List.map hdr4 (rs.foldl (fun (s : CS) b => s.forget b) _).all = _
  rw [hd4_forgets, List.map_append]; rfl
/-- a transaction is added -/
theorem SInv.add {g : G4} {s : CS} {th : List AV} {im : List Blk} (h : SInv g s th im) (x : AV) (hx : ∀ c ∈ x.cs, inG g c.1) (hok : ∀ t ∈ (addC s x.seq x.cs x.rs x.start x.count).all, t.ok) : SInv g (addC s x.seq x.cs x.rs x.start x.count) (th ++ [x]) im := by
  refine ⟨?_, hok, ?_, ?_, ?_⟩
  · rw [hd4_addC, List.map_append, h.hd]; rfl
  · intro y hy c hc
    rcases List.mem_append.1 hy with hy | hy
    · exact h.ing y hy c hc
    · rw [List.mem_singleton.1 hy] at hc; exact hx c hc
  · intro b c hg
    rw [getC_addC] at hg
    rw [cntR_append]
    by_cases hr : b ∈ x.rs
    · rw [if_pos hr] at hg; cases hg
    · rw [if_neg hr] at hg ⊢
      cases e : findC x.cs b with
      | some d => rw [e] at hg; exact hg
      | none => rw [e, Option.none_or] at hg; rw [Option.none_or]; exact h.a b c hg
  · intro b c hg hc h0
    rw [getC_addC] at hg
    rw [cntR_append] at hc
    by_cases hr : b ∈ x.rs
    · rw [if_pos hr] at hc; cases hc
    · rw [if_neg hr] at hg hc
      rw [Option.or_eq_none_iff] at hg
      rw [hg.1, Option.none_or] at hc
      exact h.b b c hg.2 hc h0
/-- a block is written -/
theorem SInv.write {g : G4} {s : CS} {th : List AV} {im : List Blk} (h : SInv g s th im) {t : CT} {r : List CT} {c : Cp} {l : List Cp} (hs : s.all = t :: r) (hl : t.left = c :: l) {k : Nat} (hk : c.1 = (k : Int)) (hlt : k < im.length) :
    ∃ d, getC s.all c.1 = some d ∧ SInv g (s.forget c.1) th (im.set k d.2) ∧ recov th (im.set k d.2) = recov th im := by
  have h1 : (getC s.all c.1).isSome = true := by
    rw [← leftP_get, hs]
    unfold leftP
    rw [List.any_cons, hl]
    have : findC (c :: l) c.1 = some c := by unfold findC; rw [List.find?_cons_of_pos (by simp)]
    rw [this]; rfl
  obtain ⟨d, hd⟩ := Option.isSome_iff_exists.1 h1
  refine ⟨d, hd, ⟨?_, ?_, h.ing, ?_, ?_⟩, ?_⟩
  · rw [← h.hd]; exact hd4_forget _ _
  · intro u hu
    obtain ⟨v, hv, rfl⟩ := List.mem_map.1 hu
    exact (h.ok v hv).forget _
  · intro b e hg
    have hg2 : getC (s.all.map (CT.forget c.1)) b = some e := hg
    rw [getC_forget] at hg2
    split at hg2
    · cases hg2
    · exact h.a b e hg2
  · intro b e hg hc h0
    have hg2 : getC (s.all.map (CT.forget c.1)) b = none := hg
    rw [getC_forget] at hg2
    by_cases e1 : b = c.1
    · have e2 : b.toNat = k := by omega
      have := h.a b d (by rw [e1]; exact hd)
      rw [hc] at this
      rw [e2, List.getElem?_set_self hlt]
      exact congrArg (fun x => some x.2) (Option.some.inj this.symm)
    · rw [if_neg e1] at hg2
      rw [List.getElem?_set_ne (by omega)]
      exact h.b b e hg2 hc h0
  · refine recov_same h.riseA h.riseA (by rw [List.length_set]) fun i hi => ?_
    cases e : cntR th (i : Int) with
    | some u => rfl
    | none =>
      show (im.set k d.2)[i]? = im[i]?
      rw [List.getElem?_set_ne]
      intro ek
      have := h.a c.1 d hd
      rw [hk, ek, e] at this
      cases this
/-- a head goes on -/
theorem SInv.head {g : G4} {s : CS} {th : List AV} {im : List Blk} (h : SInv g s th im) {t : CT} {r : List CT} (hs : s.all = t :: r) (hl : t.left = []) :
    ∃ x q, th = x :: q ∧ hdrT t = hdrA x ∧ r.map hdrT = q.map hdrA ∧ SInv g { s with all := r } q im ∧ recov q im = recov th im := by
  have h0 := h.hd
  rw [hs] at h0
  cases th with
  | nil => cases h0
  | cons x q =>
    rw [List.map_cons, List.map_cons] at h0
    injection h0 with e1 e2
    have hg : ∀ z, getC r z = getC s.all z := fun z => by rw [hs, getC, hl]; show _ = (getC r z).or none; rw [Option.or_none]
    have hin : ∀ b d, getC r b = some d → ∃ y ∈ q, (findC y.cs b).isSome = true := by
      intro b d hd
      obtain ⟨u, hu, hc, hb⟩ := getC_mem hd
      have h5 : hdr4 u ∈ q.map hdr4A := by rw [← e2]; exact List.mem_map_of_mem hu
      obtain ⟨y, hy, e⟩ := List.mem_map.1 h5
      have e3 : y.cs = u.cs := congrArg Prod.snd e
      have hok := h.ok u (by rw [hs]; exact List.mem_cons_of_mem _ hu)
      refine ⟨y, hy, ?_⟩
      rw [e3, ← hb, findC_of_mem hok.lt (hok.sub.subset hc)]; rfl
    have hst : ∀ b, cntR q b = none → getC r b = none ∨ cntR (x :: q) b = none := by
      intro b hn
      cases e : getC r b with
      | none => exact .inl rfl
      | some d =>
        have := cntR_decides (hin b d e) hn
        refine .inr ?_
        rw [cntR, hn, revd_cons, this, Bool.or_true]
        rfl
    have hup : ∀ b d, cntR q b = some d → cntR (x :: q) b = some d := fun b d hd => by rw [cntR, hd]; rfl
    refine ⟨x, q, rfl, congrArg Prod.fst e1, ?_, ⟨e2, fun u hu => h.ok u (by rw [hs]; exact List.mem_cons_of_mem _ hu), fun y hy => h.ing y (List.mem_cons_of_mem _ hy), ?_, ?_⟩, ?_⟩
    · have := congrArg (List.map Prod.fst) e2
      rw [List.map_map, List.map_map] at this
      exact this
    · intro b c hc
      have hc1 : getC r b = some c := hc
      have h3 := h.a b c (by rw [← hg]; exact hc1)
      cases e : cntR q b with
      | some d => rw [hup b d e] at h3; exact h3
      | none =>
        rcases hst b e with h4 | h4
        · rw [hc1] at h4; cases h4
        · rw [h4] at h3; cases h3
    · intro b c hc hq h6
      have hc1 : getC r b = none := hc
      exact h.b b c (by rw [← hg]; exact hc1) (hup b c hq) h6
    · refine recov_same h.riseA (fun y hy => h.riseA y (List.mem_cons_of_mem _ hy)) rfl fun i hi => ?_
      cases e : cntR q (i : Int) with
      | some d => rw [hup _ d e]
      | none =>
        cases e2 : cntR (x :: q) (i : Int) with
        | none => rfl
        | some c =>
          rcases hst _ e with h4 | h4
          · have h5 := h.b _ c (by rw [← hg]; exact h4) e2 (by omega)
            rw [Int.toNat_natCast] at h5
            exact h5
          · rw [h4] at e2; cases e2
#print axioms SInv.head
end Go.Proofs.Ytokehhegomiciaa
