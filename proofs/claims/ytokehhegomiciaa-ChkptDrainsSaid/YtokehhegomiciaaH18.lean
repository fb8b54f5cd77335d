/- Acts that came in; great. -/
import Derived.Test.YtokehhegomiciaaH16
set_option linter.unusedVariables false
set_option linter.unusedSimpArgs false
namespace Go.Proofs.Ytokehhegomiciaa
open Go.RowKit Go.Maps

/-- a call, and the rows of its transaction -/
structure AV where
  did : Bool
  seq : Nat
  vc : Value
  vr : Value
  cs : List Cp
  rs : List Int
  start : Int
  count : Int
def acell (x : AV) : List Value := [.bool x.did, .int .u32 (x.seq : Int), x.vc, x.vr, .int .i64 x.start, .int .i64 x.count]
structure AVIs (w : World) (x : AV) : Prop where
  cs : CSee w x.vc x.cs
  rs : ISee w x.vr x.rs
  seq : x.seq < 4294967296
  start : IntOk x.start
  count : IntOk x.count
def ASee (w : World) (v : Value) (l : List AV) : Prop := See w 6 v (l.map acell) ∧ ∀ x ∈ l, AVIs w x
theorem AVIs.grow {w w' : World} {x : AV} (h : AVIs w x) (hg : Grow w w') : AVIs w' x := ⟨h.cs.grow hg, h.rs.grow hg, h.seq, h.start, h.count⟩
theorem ASee.grow {w w' : World} {v : Value} {l : List AV} (h : ASee w v l) (hg : Grow w w') : ASee w' v l := ⟨h.1.grow hg, fun x hx => (h.2 x hx).grow hg⟩
theorem ASee.len {w : World} {v : Value} {l : List AV} (h : ASee w v l) : ∃ a cap, v = .slice a l.length cap := by
  obtain ⟨a, cap, hv, _⟩ := h.1
  exact ⟨a, cap, by rw [hv, List.length_map]⟩
theorem ASee.at_ {w : World} {a : Option Addr} {n cap : Nat} {l : List AV} (h : ASee w (.slice a n cap) l) {k : Nat} {x : AV} (hk : l[k]? = some x) : ∃ g o, a = some ⟨g, o, none⟩ ∧ g < w.heap.size ∧ w.rangeAt g (o + k * 6) (acell x) ∧ AVIs w x := by
  obtain ⟨a', cap', hv, hi⟩ := h.1
  obtain ⟨g, o, ha, hl, hr⟩ := hi k (acell x) (by rw [List.getElem?_map, hk]; rfl)
  cases hv
  exact ⟨g, o, ha, hl, hr, h.2 x (List.mem_of_getElem? hk)⟩
/-- not much -/
def Small (l : List AV) : Prop := l.length ≤ 60 ∧ ∀ x ∈ l, x.cs.length ≤ 600 ∧ x.rs.length ≤ 600
set_option maxRecDepth 100000 in
set_option maxHeartbeats 4000000 in
theorem great_ok {w : World} {v : Value} {l : List AV} (h : ASee w v l) (hl : l.length ≤ 9223372036854775807) (hcl : ∀ x ∈ l, x.cs.length ≤ 9223372036854775807 ∧ x.rs.length ≤ 9223372036854775807) : Calls Try.prog 8 #[v] w fun e w' => ∃ b, e = .returned (.bool b) ∧ Grow w w' ∧ (b = false → Small l) := by
  have HA := Lib.hid h
  have HCL := Lib.hid hcl
  obtain ⟨a, cap, rfl⟩ := h.len
  obtain ⟨n, hn⟩ : ∃ n, n = l.length := ⟨_, rfl⟩
  rw [← hn] at HA hl ⊢
  have HN := Lib.hid hn
  clear h hcl hn
  by_cases h60 : 60 < n
  · have d0 : decide ((n : Int) > 60) = true := decide_eq_true (by omega)
    go_enter Try.func8, Try.ntmps8
    go_wp2_with fail
    go_ret
    exact ⟨true, rfl, Grow.refl _, fun h => by cases h⟩
  · have d0 : decide ((n : Int) > 60) = false := decide_eq_false (by omega)
    go_enter Try.func8, Try.ntmps8
    go_wp2_with fail
    go_loopw [3, 4] (fun t3 t4 wr => ∃ k m : Nat, t4 = .int .i64 (k : Int) ∧ t3 = .int .i64 (m : Int) ∧ k ≤ n ∧ m ≤ k * 1200 ∧ Hid (Grow w wr ∧ ∀ x ∈ l.take k, x.cs.length ≤ 600 ∧ x.rs.length ≤ 600)) (fun _ t4 _ => n - (intOf t4).toNat)
    case atStart => exact ⟨0, 0, by go_num, rfl, by omega, by omega, Lib.hid ⟨Grow.refl _, by simp⟩⟩
    case round =>
      obtain ⟨k, m, rfl, rfl, hkn, hm, HK⟩ := hrel
      by_cases hk : k < n
      · obtain ⟨x, hx⟩ : ∃ x, l[k]? = some x := ⟨l[k]'(by rw [← HN.out]; exact hk), by simp⟩
        obtain ⟨ga, oa, rfl, hga, hr, hav⟩ := (HA.out.grow HK.out.1).at_ hx
        obtain ⟨ac, cc, hvc⟩ := hav.cs.len
        obtain ⟨ar, cr, hvr⟩ := hav.rs.len
        have q2 : wr.cell? ⟨ga, oa + k * 6 + 2, none⟩ = some (.slice ac x.cs.length cc) := (hr 2 _ rfl).trans (by rw [hvc])
        have q3 : wr.cell? ⟨ga, oa + k * 6 + 3, none⟩ = some (.slice ar x.rs.length cr) := (hr 3 _ rfl).trans (by rw [hvr])
        have hxl := HCL.out x (List.mem_of_getElem? hx)
        have HX := Lib.hid hx
        obtain ⟨nc, hnc⟩ : ∃ nc, nc = x.cs.length := ⟨_, rfl⟩
        obtain ⟨nr, hnr⟩ : ∃ nr, nr = x.rs.length := ⟨_, rfl⟩
        rw [← hnc] at q2 hxl
        rw [← hnr] at q3 hxl
        have HNC := Lib.hid hnc
        have HNR := Lib.hid hnr
        have b0 : (0 : Int) ≤ (k : Int) := by omega
        have b1 : (k : Int) < (n : Int) := by omega
        clear hx hr hav hvc hvr hnc hnr hga
        by_cases hc : nc > 600
        · have d1 : decide ((nc : Int) > 600) = true := decide_eq_true (by omega)
          have HG := Lib.hid HK.out.1
          go_wp2_with fail
          go_ret
          exact ⟨true, rfl, HG.out, fun h => by cases h⟩
        · have d1 : decide ((nc : Int) > 600) = false := decide_eq_false (by omega)
          by_cases hr : nr > 600
          · have d2 : decide ((nr : Int) > 600) = true := decide_eq_true (by omega)
            have HG := Lib.hid HK.out.1
            go_wp2_with fail
            go_ret
            exact ⟨true, rfl, HG.out, fun h => by cases h⟩
          · have d2 : decide ((nr : Int) > 600) = false := decide_eq_false (by omega)
            have HK2 := Lib.hid (show ∀ x ∈ l.take (k + 1), x.cs.length ≤ 600 ∧ x.rs.length ≤ 600 from fun y hy => by
              rw [List.take_add_one, HX.out] at hy
              rcases List.mem_append.1 hy with hy | hy
              · exact HK.out.2 y hy
              · simp only [Option.toList_some, List.mem_singleton] at hy
                subst hy
                rw [← HNC.out, ← HNR.out]; omega)
            have hw1 : IntKind.i64.wrap ((m : Int) + (nc : Int)) = (m : Int) + (nc : Int) := by rw [IntKind.wrap_i64] <;> omega
            have hw2 : IntKind.i64.wrap ((m : Int) + (nc : Int) + (nr : Int)) = (m : Int) + (nc : Int) + (nr : Int) := by rw [IntKind.wrap_i64] <;> omega
            go_wp2_with fail
            go_quiet (fail)
            have HG2 := Lib.hid (show Grow w (wr.drewN nq) from HK.out.1.trans (grow_drewN wr nq))
            generalize wr.drewN nq = W2 at *
            go_wp2_with fail
            go_roundw
            case rel => exact ⟨k + 1, m + nc + nr, by go_num, by simp, by omega, by omega, Lib.hid ⟨HG2.out, HK2.out⟩⟩
            case measure => simp [intOf]; omega
      · obtain rfl : k = n := by omega
        have HS := Lib.hid (show Small l from ⟨by rw [← HN.out]; omega, fun x hx => HK.out.2 x (by rw [HN.out, List.take_length]; exact hx)⟩)
        have HG := Lib.hid HK.out.1
        go_wp2_with fail
        go_ret
        exact ⟨_, rfl, HG.out, fun _ => HS.out⟩
#print axioms great_ok
end Go.Proofs.Ytokehhegomiciaa
