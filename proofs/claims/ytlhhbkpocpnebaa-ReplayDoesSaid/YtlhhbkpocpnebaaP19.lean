/- quernlaw19.named: the walk; slices of rows. -/
import Derived.Test.YtlhhbkpocpnebaaP12
set_option linter.unusedVariables false
set_option linter.unusedSimpArgs false
namespace Go.Proofs.Ytlhhbkpocpnebaa
open Go.RowKit Go.Maps

theorem Row.sliced {w : World} {e sz g n cap : Nat} {l : List (List Value)} (h : Row w e sz (.slice (some ⟨g, 0, none⟩) n cap) l) (k : Nat) (hk : k ≤ n) : See w sz (sliced (some ⟨g, 0, none⟩) k n cap sz) (l.drop k) := by
  have hn : n = l.length := by
    obtain ⟨a, c, hv⟩ := h.len
    cases hv; rfl
  have hl : n - k = (l.drop k).length := by rw [List.length_drop, hn]
  unfold Go.sliced
  rw [hl]
  refine ⟨_, _, rfl, fun j c hj => ?_⟩
  rw [List.getElem?_drop] at hj
  have hlt := (List.getElem?_eq_some_iff.1 hj).1
  obtain ⟨g', cap', hv, hg, hcap, _⟩ := h.open_ (by omega)
  cases hv
  refine ⟨g, k * sz, ?_, hg, ?_⟩
  · rw [if_neg (by omega)]
    show some ((⟨g, 0, none⟩ : Addr).add (k * sz)) = some _
    rw [Addr.add_mid, Nat.zero_add]
  · have := h.range hj
    rwa [Nat.add_mul] at this
/-- a slice from an element on, of a row, in a region -/
theorem gives_slice_l {P : Program} {o : Oper} {a : Act} {w : World} {T : Value → World → Prop} (t : TypeId) (x y : Operand) (ho : o.op = .slice t x (some y) none none) (ht : P.underlying t = some (.slice (P.elem t))) (i : TypeInfo) (hi : P.info? (P.elem t) = some i) (sz : Nat) (hs : i.size = sz) (ad : Option Addr) (n cap k : Nat) (hx : a.eval x = .slice ad n cap) (hy : a.eval y = .int .i64 (k : Int)) (hk : k ≤ n) (hT : T (sliced ad k n cap sz) w) : Oper.gives P o a w T := by
  refine gives_run (v := sliced ad k n cap sz) (w' := w) ?_ hT
  unfold execOp
  have h1 := run_sliceAt_slice (P := P) w t (.slice ad n cap) (some (.int .i64 (k : Int))) none none ht
  have h2 := run_slice_l (P := P) w t ad n cap ht .i64 (k : Int) (by omega) (by omega)
  have h3 : (sizeOf (P.elem t)).run P w = .ok sz w := by simp [sizeOf, typeInfo, hi, hs]
  rw [h3] at h2
  simp only [ho, hx, hy, Sem.run_bind, Option.map_some, Option.map_none, h1, h2, Result.andThen_ok, Sem.run_pure, Int.toNat_natCast]
/-- does a transaction name a block? -/
def nmB (t : PT) (b : Int) : Bool := hasC t.cs b || t.rs.any (· == b)
set_option maxRecDepth 100000 in
set_option maxHeartbeats 4000000 in
theorem named_ok {w : World} {v : Value} {xs : List TV} (h : See w 3 v (xs.map tcell)) (hat : ∀ x ∈ xs, TAt w x) (hl : xs.length ≤ 1000000) (hc : ∀ x ∈ xs, x.t.cs.length ≤ 1000000) (b : Int) : Calls Try.prog 22 #[v, .int .i64 b] w fun e w' => e = .returned (.bool (xs.any fun x => nmB x.t b)) ∧ Grow w w' := by
  have HS := Lib.hid h
  have HAT := Lib.hid hat
  have HCL := Lib.hid hc
  obtain ⟨a, cap, hv, _⟩ := h
  rw [List.length_map] at hv
  obtain ⟨n, hn⟩ : ∃ n, n = xs.length := ⟨_, rfl⟩
  have HN := Lib.hid hn
  rw [← hn] at hv hl
  subst hv
  clear hn hat hc
  go_enter Try.func22, Try.ntmps22
  go_wp2
  go_loopw [5] (fun t5 wr => ∃ k : Nat, t5 = .int .i64 (k : Int) ∧ k ≤ n ∧ Hid (Grow w wr ∧ (xs.take k).any (fun x => nmB x.t b) = false)) (fun t5 _ => n - (intOf t5).toNat)
  case atStart => exact ⟨0, by go_num, by omega, Lib.hid ⟨Grow.refl _, rfl⟩⟩
  case round =>
    obtain ⟨k, rfl, hkn, HK⟩ := hrel
    by_cases hk : k < n
    · obtain ⟨x, hx⟩ : ∃ x, xs[k]? = some x := ⟨xs[k]'(by rw [← HN.out]; exact hk), by simp⟩
      obtain ⟨g, o, rfl, hg, hr⟩ := (HS.out.grow HK.out.1).at_ (k := k) (c := tcell x) (by rw [List.getElem?_map, hx]; rfl)
      have hat := (HAT.out x (List.mem_of_getElem? hx)).grow HK.out.1
      obtain ⟨ac, cc, hvc⟩ := CRow.len hat.cs
      obtain ⟨ar, cr, hvr⟩ := IRow.len hat.rs
      have q0 : wr.cell? ⟨g, o + k * 3, none⟩ = some (.int .u32 (x.t.seq : Int)) := hr 0 _ rfl
      have q1 : wr.cell? ⟨g, o + k * 3 + 1, none⟩ = some (.slice ac x.t.cs.length cc) := (hr 1 _ rfl).trans (by rw [hvc])
      have q2 : wr.cell? ⟨g, o + k * 3 + 2, none⟩ = some (.slice ar x.t.rs.length cr) := (hr 2 _ rfl).trans (by rw [hvr])
      have HC := Lib.hid (copies_ok (v := .slice ac x.t.cs.length cc) (cs := x.t.cs) (by have := Row.see hat.cs; rwa [hvc] at this) (HCL.out x (List.mem_of_getElem? hx)) b)
      have HR := Lib.hid (show Calls Try.prog 24 #[.agg #[.int .u32 (x.t.seq : Int), .slice ac x.t.cs.length cc, .slice ar x.t.rs.length cr], .int .i64 b] wr fun e w' => e = .returned (.bool (x.t.rs.any (· == b))) ∧ Grow wr w' by
        have := revokes_ok (w := wr) (x := x) (Row.see hat.rs) hat.ok.rn b
        unfold tcell at this
        rwa [hvc, hvr] at this)
      have HX := Lib.hid hx
      generalize x.t.cs.length = nc at *
      generalize x.t.rs.length = nr at *
      have HNB := Lib.hid (show nmB x.t b = (hasC x.t.cs b || x.t.rs.any (· == b)) from rfl)
      generalize x.t.seq = sq at *
      clear hx hr hat hvc hvr
      go_wp2_with fail
      refine HC.out.mono ?_
      rintro e w' ⟨rfl, rfl⟩
      cases hcb : hasC x.t.cs b with
      | true =>
        have HB := Lib.hid (show (xs.any fun x => nmB x.t b) = true from any_of_at HX.out (by rw [HNB.out, hcb]; rfl))
        have HG := Lib.hid HK.out.1
        clear hcb
        go_wp2_with fail
        go_ret
        exact ⟨by rw [HB.out]; rfl, HG.out⟩
      | false =>
        have HCB := Lib.hid hcb
        clear hcb
        go_wp2_with fail
        refine HR.out.mono ?_
        intro e w2 hpost
        obtain ⟨he, hg2⟩ := hpost
        subst he
        have HG2 := Lib.hid (Grow.trans HK.out.1 hg2)
        clear hg2 q0 q1 q2
        cases hrb : x.t.rs.any (· == b) with
        | true =>
          have HB := Lib.hid (show (xs.any fun x => nmB x.t b) = true from any_of_at HX.out (by rw [HNB.out, hrb, Bool.or_true]))
          clear hrb
          go_wp2_with fail
          go_ret
          exact ⟨by rw [HB.out]; rfl, HG2.out⟩
        | false =>
          have HK2 := Lib.hid (show Grow w w2 ∧ (xs.take (k + 1)).any (fun x => nmB x.t b) = false from ⟨HG2.out, any_take HX.out HK.out.2 (by rw [HNB.out, HCB.out, hrb]; rfl)⟩)
          clear hrb
          go_wp2_with fail
          go_roundw
          case rel => exact ⟨k + 1, by go_num, by omega, HK2⟩
          case measure => simp [intOf]; omega
    · obtain rfl : k = n := by omega
      have HB := Lib.hid (show (xs.any fun x => nmB x.t b) = false by have := HK.out.2; rw [HN.out, List.take_length] at this; exact this)
      have HG := Lib.hid HK.out.1
      go_wp2_with fail
      go_ret
      exact ⟨by rw [HB.out]; rfl, HG.out⟩
#print axioms named_ok
end Go.Proofs.Ytlhhbkpocpnebaa
