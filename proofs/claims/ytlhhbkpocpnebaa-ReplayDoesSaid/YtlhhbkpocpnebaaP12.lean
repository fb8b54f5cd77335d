/- What only reads: names, copies, revokes, named. -/
import Derived.Test.YtlhhbkpocpnebaaP9
import Derived.Test.YtlhhbkpocpnebaaP11
set_option linter.unusedVariables false
set_option linter.unusedSimpArgs false
namespace Go.Proofs.Ytlhhbkpocpnebaa
open Go.RowKit Go.Maps

/-- elements that can be read, somewhere -/
def See (w : World) (sz : Nat) (v : Value) (l : List (List Value)) : Prop := ∃ a cap, v = .slice a l.length cap ∧ ∀ k c, l[k]? = some c → ∃ g o, a = some ⟨g, o, none⟩ ∧ g < w.heap.size ∧ w.rangeAt g (o + k * sz) c
theorem Row.see {w : World} {e sz : Nat} {v : Value} {l : List (List Value)} (h : Row w e sz v l) : See w sz v l := by
  obtain ⟨a, cap, hv⟩ := h.len
  refine ⟨a, cap, hv, fun k c hk => ?_⟩
  obtain ⟨g, cap', hv', hg, _⟩ := h.open_ (by have := (List.getElem?_eq_some_iff.1 hk).1; omega)
  rw [hv'] at hv h
  cases hv
  exact ⟨g, 0, rfl, hg, by rw [Nat.zero_add]; exact h.range hk⟩
theorem See.grow {w w' : World} {sz : Nat} {v : Value} {l : List (List Value)} (h : See w sz v l) (hg : Grow w w') : See w' sz v l := by
  obtain ⟨a, cap, hv, hi⟩ := h
  refine ⟨a, cap, hv, fun k c hk => ?_⟩
  obtain ⟨g, o, ha, hl, hr⟩ := hi k c hk
  exact ⟨g, o, ha, Nat.lt_of_lt_of_le hl hg.size, fun j u hj => (hg.cell (p := ⟨g, o + k * sz + j, none⟩) hl).trans (hr j u hj)⟩
theorem See.at_ {w : World} {sz : Nat} {a : Option Addr} {n cap : Nat} {l : List (List Value)} (h : See w sz (.slice a n cap) l) {k : Nat} {c : List Value} (hk : l[k]? = some c) : ∃ g o, a = some ⟨g, o, none⟩ ∧ g < w.heap.size ∧ w.rangeAt g (o + k * sz) c := by
  obtain ⟨a', cap', hv, hi⟩ := h
  injection hv with e1 e2 e3
  subst e1
  exact hi k c hk
/-- an element's block number among copies -/
def hasC (cs : List Cp) (b : Int) : Bool := cs.any fun c => c.1 == b
theorem any_take {α : Type} {p : α → Bool} {l : List α} {k : Nat} {x : α} (hx : l[k]? = some x) (h : (l.take k).any p = false) (hp : p x = false) : (l.take (k + 1)).any p = false := by
  rw [List.take_add_one, hx, List.any_append, h]; simp [hp]
theorem any_of_at {α : Type} {p : α → Bool} {l : List α} {k : Nat} {x : α} (hx : l[k]? = some x) (hp : p x = true) : l.any p = true := List.any_eq_true.2 ⟨x, List.mem_of_getElem? hx, hp⟩
theorem beq_ff {a b : Int} (h : ¬ a = b) : (a == b) = false := by simp [h]
set_option maxRecDepth 100000 in
set_option maxHeartbeats 4000000 in
theorem copies_ok {w : World} {v : Value} {cs : List Cp} (h : See w 257 v (cs.map ccell)) (hl : cs.length ≤ 1000000) (b : Int) : Calls Try.prog 23 #[v, .int .i64 b] w fun e w' => e = .returned (.bool (hasC cs b)) ∧ w' = w := by
  have HS := Lib.hid h
  obtain ⟨a, cap, hv, _⟩ := h
  rw [List.length_map] at hv
  obtain ⟨n, hn⟩ : ∃ n, n = cs.length := ⟨_, rfl⟩
  have HN := Lib.hid hn
  rw [← hn] at hv hl
  subst hv
  clear hn
  go_enter Try.func23, Try.ntmps23
  go_wp2
  go_loop [5] (fun t5 => ∃ k : Nat, t5 = .int .i64 (k : Int) ∧ k ≤ n ∧ Hid ((cs.take k).any (fun c => c.1 == b) = false)) (fun t5 => n - (intOf t5).toNat)
  case atStart => exact ⟨0, by go_num, by omega, Lib.hid rfl⟩
  case round =>
    obtain ⟨k, rfl, hkn, HK⟩ := hrel
    by_cases hk : k < n
    · obtain ⟨c, hc⟩ : ∃ c, cs[k]? = some c := ⟨cs[k]'(by rw [← HN.out]; exact hk), by simp⟩
      obtain ⟨g, o, rfl, hg, hr⟩ := HS.out.at_ (k := k) (c := ccell c) (by rw [List.getElem?_map, hc]; rfl)
      have hcell : w.cell? ⟨g, o + k * 257, none⟩ = some (.int .i64 c.1) := hr 0 _ rfl
      have HC := Lib.hid hc
      clear hc hr
      by_cases e : c.1 = b
      · have HB := Lib.hid (show hasC cs b = true from any_of_at HC.out (by simp [e]))
        have e0 : (c.1 == b) = true := by simp [e]
        clear e
        go_wp2
        go_ret
        exact ⟨by rw [HB.out]; rfl, rfl⟩
      · have e0 := beq_ff e
        have HK2 := Lib.hid (any_take (p := fun c => c.1 == b) HC.out HK.out e0)
        clear e
        go_wp2
        go_round
        case rel => exact ⟨k + 1, by go_num, by omega, HK2⟩
        case measure => simp [intOf]; omega
    · obtain rfl : k = n := by omega
      have HB := Lib.hid (show hasC cs b = false by have := HK.out; rw [HN.out, List.take_length] at this; exact this)
      go_wp2
      go_ret
      exact ⟨by rw [HB.out]; rfl, rfl⟩
#print axioms copies_ok
set_option maxRecDepth 100000 in
set_option maxHeartbeats 4000000 in
theorem names_ok {w : World} {v : Value} {zs : List Int} (h : See w 1 v (zs.map icell)) (hl : zs.length ≤ 1000000) (b : Int) : Calls Try.prog 35 #[v, .int .i64 b] w fun e w' => e = .returned (.bool (zs.any (· == b))) ∧ w' = w := by
  have HS := Lib.hid h
  obtain ⟨a, cap, hv, _⟩ := h
  rw [List.length_map] at hv
  obtain ⟨n, hn⟩ : ∃ n, n = zs.length := ⟨_, rfl⟩
  have HN := Lib.hid hn
  rw [← hn] at hv hl
  subst hv
  clear hn
  go_enter Try.func35, Try.ntmps35
  go_wp2
  go_loop [5] (fun t5 => ∃ k : Nat, t5 = .int .i64 (k : Int) ∧ k ≤ n ∧ Hid ((zs.take k).any (· == b) = false)) (fun t5 => n - (intOf t5).toNat)
  case atStart => exact ⟨0, by go_num, by omega, Lib.hid rfl⟩
  case round =>
    obtain ⟨k, rfl, hkn, HK⟩ := hrel
    by_cases hk : k < n
    · obtain ⟨c, hc⟩ : ∃ c, zs[k]? = some c := ⟨zs[k]'(by rw [← HN.out]; exact hk), by simp⟩
      obtain ⟨g, o, rfl, hg, hr⟩ := HS.out.at_ (k := k) (c := icell c) (by rw [List.getElem?_map, hc]; rfl)
      have hcell : w.cell? ⟨g, o + k, none⟩ = some (.int .i64 c) := by have := hr 0 _ rfl; rwa [Nat.mul_one] at this
      have HC := Lib.hid hc
      clear hc hr
      by_cases e : c = b
      · have HB := Lib.hid (show zs.any (· == b) = true from any_of_at HC.out (by simp [e]))
        have e0 : (c == b) = true := by simp [e]
        clear e
        go_wp2
        go_ret
        exact ⟨by rw [HB.out]; rfl, rfl⟩
      · have e0 := beq_ff e
        have HK2 := Lib.hid (any_take (p := (· == b)) HC.out HK.out e0)
        clear e
        go_wp2
        go_round
        case rel => exact ⟨k + 1, by go_num, by omega, HK2⟩
        case measure => simp [intOf]; omega
    · obtain rfl : k = n := by omega
      have HB := Lib.hid (show zs.any (· == b) = false by have := HK.out; rw [HN.out, List.take_length] at this; exact this)
      go_wp2
      go_ret
      exact ⟨by rw [HB.out]; rfl, rfl⟩
#print axioms names_ok
set_option maxRecDepth 100000 in
set_option maxHeartbeats 4000000 in
theorem revokes_ok {w : World} {x : TV} (h : See w 1 x.vr (x.t.rs.map icell)) (hl : x.t.rs.length ≤ 1000000) (b : Int) : Calls Try.prog 24 #[.agg (tcell x).toArray, .int .i64 b] w fun e w' => e = .returned (.bool (x.t.rs.any (· == b))) ∧ Grow w w' := by
  obtain ⟨⟨s, cs, zs⟩, vc, vr⟩ := x
  dsimp only at h hl ⊢
  have HS := Lib.hid (h.grow (Grow.alloc w (.cells #[.int .u32 (s : Int), vc, vr] 55)))
  have HH := Lib.hid (heap_alloc_last w (.cells #[.int .u32 (s : Int), vc, vr] 55))
  have HG := Lib.hid (Grow.alloc w (.cells #[.int .u32 (s : Int), vc, vr] 55))
  obtain ⟨a, cap, hv, _⟩ := h
  rw [List.length_map] at hv
  obtain ⟨n, hn⟩ : ∃ n, n = zs.length := ⟨_, rfl⟩
  have HN := Lib.hid hn
  rw [← hn] at hv hl
  subst hv
  clear hn
  unfold tcell
  go_enter Try.func24, Try.ntmps24
  go_wp2
  obtain ⟨w1, hw1⟩ : ∃ w1, w1 = w.alloc (.cells #[.int .u32 (s : Int), vc, .slice a n cap] 55) := ⟨_, rfl⟩
  rw [← hw1] at HS HH HG ⊢
  clear hw1
  have hcr : w1.cell? ⟨w.heap.size, 2, none⟩ = some (.slice a n cap) := cell_at HH.out 2
  go_loop [5] (fun t5 => ∃ k : Nat, t5 = .int .i64 (k : Int) ∧ k ≤ n ∧ Hid ((zs.take k).any (· == b) = false)) (fun t5 => n - (intOf t5).toNat)
  case atStart => exact ⟨0, by go_num, by omega, Lib.hid rfl⟩
  case round =>
    obtain ⟨k, rfl, hkn, HK⟩ := hrel
    by_cases hk : k < n
    · obtain ⟨c, hc⟩ : ∃ c, zs[k]? = some c := ⟨zs[k]'(by rw [← HN.out]; exact hk), by simp⟩
      obtain ⟨g, o, rfl, hg, hr⟩ := HS.out.at_ (k := k) (c := icell c) (by rw [List.getElem?_map, hc]; rfl)
      have hcell : w1.cell? ⟨g, o + k, none⟩ = some (.int .i64 c) := by have := hr 0 _ rfl; rwa [Nat.mul_one] at this
      have HC := Lib.hid hc
      clear hc hr
      by_cases e : c = b
      · have HB := Lib.hid (show zs.any (· == b) = true from any_of_at HC.out (by simp [e]))
        have e0 : (c == b) = true := by simp [e]
        clear e
        go_wp2
        go_ret
        exact ⟨by rw [HB.out]; rfl, HG.out⟩
      · have e0 := beq_ff e
        have HK2 := Lib.hid (any_take (p := (· == b)) HC.out HK.out e0)
        clear e
        go_wp2
        go_round
        case rel => exact ⟨k + 1, by go_num, by omega, HK2⟩
        case measure => simp [intOf]; omega
    · obtain rfl : k = n := by omega
      have HB := Lib.hid (show zs.any (· == b) = false by have := HK.out; rw [HN.out, List.take_length] at this; exact this)
      go_wp2
      go_ret
      exact ⟨by rw [HB.out]; rfl, HG.out⟩
#print axioms revokes_ok
end Go.Proofs.Ytlhhbkpocpnebaa
