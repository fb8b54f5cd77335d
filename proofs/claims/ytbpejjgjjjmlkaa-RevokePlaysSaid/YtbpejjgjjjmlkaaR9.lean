/- The law RevokeOf: the walk. -/
import Derived.Test.YtbpejjgjjjmlkaaR7
import Derived.Test.YtbpejjgjjjmlkaaR5
set_option linter.unusedVariables false
set_option linter.unusedSimpArgs false
namespace Go.Proofs.Ytbpejjgjjjmlkaa
open Go.RowKit Go.Maps

theorem IRow.cell {w : World} {g n cap : Nat} {zs : List Int} (h : IRow w (.slice (some ⟨g, 0, none⟩) n cap) zs) {k : Nat} {z : Int} (hk : zs[k]? = some z) : w.cell? ⟨g, k, none⟩ = some (.int .i64 z) := by
  have hr := Row.range h (i := k) (c := icell z) (by rw [List.getElem?_map, hk]; rfl)
  have := hr 0 _ rfl
  rw [Nat.mul_one, Nat.add_zero] at this
  exact this
theorem IRow.open_ {w : World} {v : Value} {zs : List Int} (h : IRow w v zs) (hl : 0 < zs.length) : ∃ g cap, v = .slice (some ⟨g, 0, none⟩) zs.length cap := by
  obtain ⟨g, cap, hv, _⟩ := Row.open_ h (by rw [List.length_map]; exact hl)
  rw [List.length_map] at hv
  exact ⟨g, cap, hv⟩
theorem ofR_step {m : List Rc} {i : Nat} {x : Rc} (h : m[i]? = some x) (s : Nat) : ofR (m.take (i + 1)) s = if x.2 = s then ofR (m.take i) s ++ [x.1] else ofR (m.take i) s := by
  have hk := (List.getElem?_eq_some_iff.1 h).1
  have hv := (List.getElem?_eq_some_iff.1 h).2
  unfold ofR
  rw [List.take_succ_eq_append_getElem hk, List.filter_append, hv]
  by_cases e : x.2 = s <;> simp [e]
theorem take_snoc {zs : List Int} {k : Nat} {z : Int} (h : zs[k]? = some z) : zs.take (k + 1) = zs.take k ++ [z] := by
  have hk := (List.getElem?_eq_some_iff.1 h).1
  have hv := (List.getElem?_eq_some_iff.1 h).2
  rw [List.take_succ_eq_append_getElem hk, hv]
theorem sortI_mem {zs : List Int} {z : Int} : z ∈ sortI zs ↔ z ∈ zs := (sortI_perm zs).mem_iff
theorem sortI_strict {zs : List Int} (h : zs.Nodup) : (sortI zs).Pairwise (· < ·) := by
  have h1 := sortI_sorted zs
  have h2 : (sortI zs).Nodup := (sortI_perm zs).nodup_iff.2 h
  exact (h1.and h2).imp (fun {a b} h => by have := h.1; have := h.2; omega)
theorem strict_at {zs : List Int} (h : zs.Pairwise (· < ·)) {i : Nat} {x y : Int} (hx : zs[i]? = some x) (hy : zs[i + 1]? = some y) : x < y := by
  obtain ⟨h1, rfl⟩ := List.getElem?_eq_some_iff.1 hx
  obtain ⟨h2, rfl⟩ := List.getElem?_eq_some_iff.1 hy
  exact List.pairwise_iff_getElem.1 h i (i + 1) h1 h2 (by omega)
set_option maxRecDepth 100000 in
set_option maxHeartbeats 4000000 in
theorem of_walk {w : World} {v : Value} {l : List RP} (hp : RecsIn w v l) (hl : l.length ≤ 9223372036854775807) (s : Nat) (hs : s < 4294967296) :
    Calls Try.prog 4 #[v, .int .u32 (s : Int)] w fun e w' => e = .returned (.bool true) ∧ Below w.heap.size w w' := by
  have HP := Lib.hid hp
  obtain ⟨ad, cap, rfl, hc⟩ := hp
  obtain ⟨L, hL⟩ : ∃ L, L = l.length := ⟨_, rfl⟩
  rw [← hL] at hl HP ⊢
  have HL := Lib.hid hL
  clear hc hL
  by_cases h3 : 200 < L
  · have d0 : decide ((200 : Int) < (L : Int)) = true := by simp; omega
    go_enter Try.func4, Try.ntmps4
    go_wp2_with fail
    go_ret
    exact ⟨rfl, Below.refl _ _⟩
  · have d0 : decide ((200 : Int) < (L : Int)) = false := by simp; omega
    go_enter Try.func4, Try.ntmps4
    go_wp2_with fail
    refine (laid_ok HP.out (by rw [← HL.out]; omega)).mono ?_
    intro e w1 hpost
    obtain ⟨B, bm, vm, he, hI⟩ := hpost
    obtain ⟨m, hm⟩ : ∃ m, m = laidR l := ⟨_, rfl⟩
    rw [← hm, ← HL.out] at hI
    clear hm
    have HT := Lib.hid hI.tab
    have HR := Lib.hid hI.row
    have HG := Lib.hid hI.grow
    have HML := Lib.hid hI.len
    have HND := Lib.hid (show m.Nodup from hI.tab.map.elim fun D h => h.2.nodup)
    obtain ⟨a8, c8, hvm⟩ := hI.row.len
    rw [List.length_map] at hvm
    subst hvm
    subst he
    clear hI
    obtain ⟨n8, hn8⟩ : ∃ n8, n8 = m.length := ⟨_, rfl⟩
    rw [← hn8] at HR HML ⊢
    have n8l : n8 ≤ 200 := by have := HML.out; omega
    have HN8 := Lib.hid hn8
    clear hn8
    go_wp2_with fail
    refine (of_ok HT.out (by rw [← HN8.out]; omega) s).mono ?_
    intro e w2 hpost
    obtain ⟨vo, he, hrow, hg2, _⟩ := hpost
    obtain ⟨G, hG⟩ : ∃ G, G = sortI (ofR m s) := ⟨_, rfl⟩
    rw [← hG] at hrow
    have HGM := Lib.hid (show ∀ b, (b, s) ∈ m → b ∈ G from fun b hb => by rw [hG, sortI_mem, ofR_mem]; exact hb)
    have HGL := Lib.hid (show G.length = (ofR m s).length by rw [hG, sortI_length])
    have HGS := Lib.hid (show G.Pairwise (· < ·) by rw [hG]; exact sortI_strict (ofR_nodup HND.out s))
    have gl2 : G.length ≤ 200 := by
      have h1 : (ofR m s).length ≤ m.length := by unfold ofR; rw [List.length_map]; exact List.length_filter_le _ _
      rw [HGL.out]; have := HN8.out; omega
    clear hG
    obtain ⟨ao, co, hvo⟩ := hrow.len
    rw [List.length_map] at hvo
    subst hvo
    subst he
    have HRG := Lib.hid hrow
    have HR2 := Lib.hid (HR.out.kept (Touch.of_below (S := []) hg2) (by simp))
    have HG2 := Lib.hid (Grow.trans HG.out hg2)
    obtain ⟨gn, hgn⟩ : ∃ gn, gn = G.length := ⟨_, rfl⟩
    rw [← hgn] at HRG HGL gl2 ⊢
    have HGN := Lib.hid hgn
    clear hg2 hrow HT HR HG hgn
    go_wp2_with fail
    go_loopw [8, 9] (fun t8 t9 wr => ∃ (i k : Nat), i ≤ n8 ∧ k ≤ i ∧ t8 = .int .i64 (k : Int) ∧ t9 = .int .i64 (i : Int) ∧ Hid ((ofR (m.take i) s).length = k) ∧ Hid (Touch [] w2 wr)) (fun _ t9 _ => n8 - (intOf t9).toNat)
    case atStart => exact ⟨0, 0, by omega, by omega, rfl, rfl, Lib.hid rfl, Lib.hid (Touch.refl _ _)⟩
    case round =>
      obtain ⟨i, k, hi, hki, rfl, rfl, HK, HW⟩ := hrel
      obtain ⟨wo, rfl⟩ : ∃ wo : World, wo = wr := ⟨_, rfl⟩
      by_cases hlt : i < n8
      · have him : i < m.length := by rw [← HN8.out]; exact hlt
        obtain ⟨r, hr⟩ : ∃ r, m[i]? = some r := ⟨m[i], by simp [him]⟩
        obtain ⟨gm, cm, hv, hgm, _, _⟩ := HR2.out.open_ (by rw [List.length_map]; omega)
        rw [List.length_map, ← HN8.out] at hv
        cases hv
        have HRr := Lib.hid hr
        obtain ⟨x0, x1, x2⟩ := (HR2.out.kept HW.out (by simp)).cells3 hr
        have HST := Lib.hid (ofR_step hr s)
        have HMM := Lib.hid (List.mem_of_getElem? hr)
        obtain ⟨rb, rs⟩ := r
        dsimp only at x0 x1
        have b0 : (0 : Int) ≤ (i : Int) := by omega
        have b1 : (i : Int) < (n8 : Int) := by omega
        clear hr him hgm
        by_cases hq : rs = s
        · subst hq
          have HK2 := Lib.hid (show (ofR (m.take (i + 1)) rs).length = k + 1 by rw [HST.out, if_pos rfl, List.length_append, HK.out]; rfl)
          have HIN := Lib.hid (HGM.out rb HMM.out)
          clear HST HK
          go_wp2_with fail
          go_loopw [10, 11] (fun t10 t11 wr => ∃ (j : Nat) (f : Bool), j ≤ gn ∧ t10 = .bool f ∧ t11 = .int .i64 (j : Int) ∧ Hid (decide (rb ∈ G.take j) = f) ∧ Hid (Touch [] wo wr)) (fun _ t11 _ => gn - (intOf t11).toNat)
          case atStart => exact ⟨0, false, by omega, rfl, rfl, Lib.hid (by simp), Lib.hid (Touch.refl _ _)⟩
          case round =>
            obtain ⟨j, f, hj, rfl, rfl, HF, HW2⟩ := hrel
            have HW3 := Lib.hid (HW.out.trans HW2.out (by simp))
            by_cases hjt : j < gn
            · have hjg : j < G.length := by rw [← HGN.out]; exact hjt
              obtain ⟨z, hz⟩ : ∃ z, G[j]? = some z := ⟨G[j], by simp [hjg]⟩
              obtain ⟨gg, cg, hv⟩ := HRG.out.open_ (by omega)
              rw [← HGN.out] at hv
              cases hv
              have y0 := IRow.cell (Row.kept HRG.out HW3.out (by simp)) hz
              have HTS := Lib.hid (take_snoc hz)
              have z0 : wr.cell? ⟨gm, i * 3, none⟩ = some (.int .i64 rb) := (((HR2.out.kept HW3.out (by simp)).cells3 HRr.out).1)
              have j0 : (0 : Int) ≤ (j : Int) := by omega
              have j1 : (j : Int) < (gn : Int) := by omega
              clear hz hjg
              cases f with
              | true =>
                have HF2 := Lib.hid (show decide (rb ∈ G.take (j + 1)) = true by rw [HTS.out]; have := of_decide_eq_true HF.out; simp [this])
                go_upto_region 15 with (fail)
                go_quiet (fail)
                go_wp2_with fail
                go_roundw
                case rel => exact ⟨j + 1, true, by omega, rfl, by go_num, HF2, Lib.hid (HW2.out.trans (touch_drewN [] _ _) (by simp))⟩
                case measure => simp [intOf]; omega
              | false =>
                have hnf := of_decide_eq_false HF.out
                by_cases hzb : z = rb
                · have ez : (z == rb) = true := by simpa using hzb
                  have HF2 := Lib.hid (show decide (rb ∈ G.take (j + 1)) = true by rw [HTS.out]; simp [hzb])
                  clear hnf
                  go_upto_region 15 with (fail)
                  go_quiet (fail)
                  go_wp2_with fail
                  go_roundw
                  case rel => exact ⟨j + 1, true, by omega, rfl, by go_num, HF2, Lib.hid (HW2.out.trans (touch_drewN [] _ _) (by simp))⟩
                  case measure => simp [intOf]; omega
                · have ez : (z == rb) = false := by simpa using hzb
                  have HF2 := Lib.hid (show decide (rb ∈ G.take (j + 1)) = false by rw [HTS.out]; simp [hnf]; exact fun h => hzb h.symm)
                  clear hnf
                  go_upto_region 15 with (fail)
                  go_quiet (fail)
                  go_wp2_with fail
                  go_roundw
                  case rel => exact ⟨j + 1, false, by omega, rfl, by go_num, HF2, Lib.hid (HW2.out.trans (touch_drewN [] _ _) (by simp))⟩
                  case measure => simp [intOf]; omega
            · obtain rfl : j = gn := by omega
              obtain rfl : f = true := by have h1 := HF.out; rw [HGN.out, List.take_length] at h1; rw [← h1]; exact decide_eq_true HIN.out
              go_wp2_with fail
              go_roundw
              case rel => exact ⟨i + 1, k + 1, by omega, by omega, by go_num, by go_num, HK2, HW3⟩
              case measure => simp [intOf]; omega
        · have HK2 := Lib.hid (show (ofR (m.take (i + 1)) s).length = k by rw [HST.out, if_neg hq]; exact HK.out)
          have en : ((rs : Int) == (s : Int)) = false := by simp; omega
          go_wp2_with fail
          go_roundw
          case rel => exact ⟨i + 1, k, by omega, by omega, rfl, by go_num, HK2, HW⟩
          case measure => simp [intOf]; omega
      · obtain rfl : i = n8 := by omega
        have HKm := Lib.hid (show gn = k by have := HK.out; rw [HN8.out, List.take_length] at this; rw [HGL.out, this])
        obtain rfl := HKm.out
        clear HK
        go_wp2_with fail
        go_loopw [12] (fun t12 wr => ∃ (j : Nat), 1 ≤ j ∧ (j ≤ gn ∨ j = 1) ∧ t12 = .int .i64 (j : Int) ∧ Hid (Touch [] w2 wr)) (fun t12 _ => gn - (intOf t12).toNat)
        case atStart => exact ⟨1, by omega, .inr rfl, rfl, HW⟩
        case round =>
          clear HW
          obtain ⟨j, hj1, hj2, rfl, HW⟩ := hrel
          by_cases hjt : j < gn
          · obtain ⟨q, rfl⟩ : ∃ q, j = q + 1 := ⟨j - 1, by omega⟩
            obtain ⟨z, hz⟩ : ∃ z, G[q + 1]? = some z := ⟨G[q + 1]'(by rw [← HGN.out]; exact hjt), by simp⟩
            obtain ⟨y, hy⟩ : ∃ y, G[q]? = some y := ⟨G[q]'(by rw [← HGN.out]; omega), by simp⟩
            obtain ⟨gg, cg, hv⟩ := HRG.out.open_ (by rw [← HGN.out]; omega)
            rw [← HGN.out] at hv
            cases hv
            have y0 := IRow.cell (Row.kept HRG.out HW.out (by simp)) hz
            have y1 := IRow.cell (Row.kept HRG.out HW.out (by simp)) hy
            have hyz := strict_at HGS.out hy hz
            have ec : decide (z ≤ y) = false := by simp; omega
            have j0 : (0 : Int) ≤ ((q + 1 : Nat) : Int) := by omega
            have j1 : ((q + 1 : Nat) : Int) < (gn : Int) := by omega
            have q0 : (0 : Int) ≤ (q : Int) := by omega
            have q1 : (q : Int) < (gn : Int) := by omega
            have eq : ((q + 1 : Nat) : Int) - 1 = (q : Int) := by omega
            clear hz hy hyz
            go_upto_region 21 with (fail)
            go_quiet (fail)
            go_wp2_with fail
            go_roundw
            case rel => exact ⟨q + 1 + 1, by omega, .inl (by omega), by go_num, Lib.hid (HW.out.trans (touch_drewN [] _ _) (by simp))⟩
            case measure => simp [intOf]; omega
          · have ejt : decide ((j : Int) < (gn : Int)) = false := by simp; omega
            have HGf := Lib.hid (show Grow w wr from Grow.trans HG2.out (HW.out.below (Nat.le_refl _) (by simp)))
            go_wp2_with fail
            go_ret
            exact ⟨rfl, HGf.out⟩
#print axioms of_walk
end Go.Proofs.Ytbpejjgjjjmlkaa
