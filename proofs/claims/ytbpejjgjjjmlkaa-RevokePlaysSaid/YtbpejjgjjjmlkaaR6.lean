/- The law RevokeLast: the walk. -/
import Derived.Test.YtbpejjgjjjmlkaaR5
set_option linter.unusedVariables false
set_option linter.unusedSimpArgs false
namespace Go.Proofs.Ytbpejjgjjjmlkaa
open Go.RowKit Go.Maps

theorem mem_take_snoc {m : List Rc} {i : Nat} {x : Rc} (h : m[i]? = some x) (r : Rc) : (r ∈ m.take i ∨ r = x) ↔ r ∈ m.take (i + 1) := by
  have hk := (List.getElem?_eq_some_iff.1 h).1
  have hv := (List.getElem?_eq_some_iff.1 h).2
  rw [List.take_succ_eq_append_getElem hk, List.mem_append, hv, List.mem_singleton]
set_option maxRecDepth 100000 in
set_option maxHeartbeats 4000000 in
theorem last_walk {w : World} {v : Value} {l : List RP} (hp : RecsIn w v l) (hl : l.length ≤ 9223372036854775807) (b : Int) (s : Nat) (hs : s < 4294967296) :
    Calls Try.prog 3 #[v, .int .i64 b, .int .u32 (s : Int)] w fun e w' => e = .returned (.bool true) ∧ Below w.heap.size w w' := by
  have HP := Lib.hid hp
  obtain ⟨ad, cap, rfl, hc⟩ := hp
  obtain ⟨L, hL⟩ : ∃ L, L = l.length := ⟨_, rfl⟩
  rw [← hL] at hl HP ⊢
  have HL := Lib.hid hL
  clear hc hL
  by_cases h3 : 200 < L
  · have d0 : decide ((200 : Int) < (L : Int)) = true := by simp; omega
    go_enter Try.func3, Try.ntmps3
    go_wp2_with fail
    go_ret
    exact ⟨rfl, Below.refl _ _⟩
  · have d0 : decide ((200 : Int) < (L : Int)) = false := by simp; omega
    go_enter Try.func3, Try.ntmps3
    go_wp2_with fail
    refine (laid_ok HP.out (by rw [← HL.out]; omega)).mono ?_
    intro e w1 hpost
    obtain ⟨B, bm, vm, he, hI⟩ := hpost
    obtain ⟨m, hm⟩ : ∃ m, m = laidR l := ⟨_, rfl⟩
    rw [← hm, ← HL.out] at hI
    clear hm
    have HT := Lib.hid hI.tab
    have HR := Lib.hid hI.row
    have HG := Lib.hid hI.grow
    have HML := Lib.hid hI.len
    obtain ⟨a8, c8, hvm⟩ := hI.row.len
    rw [List.length_map] at hvm
    subst hvm
    subst he
    clear hI
    obtain ⟨n8, hn8⟩ : ∃ n8, n8 = m.length := ⟨_, rfl⟩
    rw [← hn8] at HR HML ⊢
    have n8l : n8 ≤ 200 := by have := HML.out; omega
    have HN8 := Lib.hid hn8
    clear hn8
    go_wp2_with fail
    go_loopw [9, 10, 11] (fun t9 t10 t11 wr => ∃ (i last : Nat) (ok : Bool), i ≤ n8 ∧ t9 = .int .u32 (last : Int) ∧ last < 4294967296 ∧ t10 = .bool ok ∧ t11 = .int .i64 (i : Int) ∧ Hid (LastIs (· ∈ m.take i) b last ok) ∧ Hid (wr = w1)) (fun _ _ t11 _ => n8 - (intOf t11).toNat)
    case atStart => exact ⟨0, 0, false, by omega, rfl, by omega, rfl, rfl, Lib.hid ((LastIs.none b).congr (fun r => by simp)), Lib.hid rfl⟩
    case round =>
      obtain ⟨i, last, ok, hi, rfl, hl32, rfl, rfl, HLI, HW⟩ := hrel
      obtain rfl := HW.out
      by_cases hlt : i < n8
      · have him : i < m.length := by rw [← HN8.out]; exact hlt
        obtain ⟨r, hr⟩ : ∃ r, m[i]? = some r := ⟨m[i], by simp [him]⟩
        obtain ⟨gm, cm, hv, hgm, _, _⟩ := HR.out.open_ (by rw [List.length_map]; omega)
        rw [List.length_map, ← HN8.out] at hv
        cases hv
        obtain ⟨x0, x1, x2⟩ := HR.out.cells3 hr
        have HMS := Lib.hid (mem_take_snoc hr)
        obtain ⟨rb, rs⟩ := r
        have hok : rs < 4294967296 := (HT.out.map.elim fun D h => h.2.ok (rb, rs) (List.mem_of_getElem? hr)).2.2
        dsimp only at x0 x1
        have b0 : (0 : Int) ≤ (i : Int) := by omega
        have b1 : (i : Int) < (n8 : Int) := by omega
        clear hr him hgm
        by_cases hb : rb = b
        · have eb : (rb == b) = true := by simpa using hb
          have HM := Lib.hid ((HLI.out.more (rb, rs) hb).congr HMS.out)
          cases ok with
          | false =>
            have h0 := (HLI.out.no rfl).1
            rw [h0] at HM
            clear h0
            go_wp2_with fail
            go_roundw
            case rel => exact ⟨i + 1, rs, true, by omega, rfl, hok, rfl, by go_num, by rw [Nat.zero_max] at HM; exact HM, Lib.hid trivial⟩
            case measure => simp [intOf]; omega
          | true =>
            by_cases hgt : last < rs
            · have eg : decide ((last : Int) < (rs : Int)) = true := by simp; omega
              go_wp2_with fail
              go_roundw
              case rel => exact ⟨i + 1, rs, true, by omega, rfl, hok, rfl, by go_num, by rw [Nat.max_eq_right (by omega : last ≤ (rb, rs).2)] at HM; exact HM, Lib.hid trivial⟩
              case measure => simp [intOf]; omega
            · have eg : decide ((last : Int) < (rs : Int)) = false := by simp; omega
              go_wp2_with fail
              go_roundw
              case rel => exact ⟨i + 1, last, true, by omega, rfl, hl32, rfl, by go_num, by rw [Nat.max_eq_left (by omega : (rb, rs).2 ≤ last)] at HM; exact HM, Lib.hid trivial⟩
              case measure => simp [intOf]; omega
        · have eb : (rb == b) = false := by simpa using hb
          have HM := Lib.hid ((HLI.out.other (rb, rs) hb).congr HMS.out)
          go_wp2_with fail
          go_roundw
          case rel => exact ⟨i + 1, last, ok, by omega, rfl, hl32, rfl, by go_num, HM, Lib.hid trivial⟩
          case measure => simp [intOf]; omega
      · obtain rfl : i = n8 := by omega
        have HLM := Lib.hid (show LastIs (· ∈ m) b last ok by have := HLI.out; rw [HN8.out, List.take_length] at this; exact this)
        have HRV := Lib.hid (HLM.out.revoked s)
        clear HLI HW
        go_wp2_with fail
        refine (last_ok HT.out b).mono ?_
        intro e w2 hpost
        obtain ⟨last', ok', he, _, hla, hg2⟩ := hpost
        obtain ⟨e1, e2⟩ := hla.unique HLM.out
        subst he
        subst e1 e2
        have HT2 := Lib.hid (HT.out.kept (Touch.of_below (S := []) hg2) (by simp) (by simp))
        have HG2 := Lib.hid (Grow.trans HG.out hg2)
        clear hla hg2
        go_wp2_with fail
        refine (revoked_ok HT2.out b s hs).mono ?_
        intro e w3 hpost
        obtain ⟨he, hg3⟩ := hpost
        rw [← HRV.out] at he
        subst he
        have HT3 := Lib.hid (HT2.out.kept (Touch.of_below (S := []) hg3) (by simp) (by simp))
        have HG3 := Lib.hid (Grow.trans HG2.out hg3)
        clear hg3
        obtain ⟨dd, hdd⟩ : ∃ dd, decide (s ≤ last') = dd := ⟨_, rfl⟩
        cases ok'
        all_goals
          go_wp2_with fail
          refine (len_ok HT3.out).mono ?_
          intro e w' hpost
          obtain ⟨he, hw⟩ := hpost
          subst he hw
          rw [← HN8.out]
          go_wp2_with fail
          go_ret
          exact ⟨rfl, HG3.out⟩
#print axioms last_walk
end Go.Proofs.Ytbpejjgjjjmlkaa
