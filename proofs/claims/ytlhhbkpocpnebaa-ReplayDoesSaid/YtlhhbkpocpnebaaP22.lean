/- The law ReplayRevokes: the walk. -/
import Derived.Test.YtlhhbkpocpnebaaP17
set_option linter.unusedVariables false
set_option linter.unusedSimpArgs false
namespace Go.Proofs.Ytlhhbkpocpnebaa
open Go.RowKit Go.Maps

/-- the blocks that are copied, in order -/
def allB (l : List PT) : List Int := l.flatMap fun t => t.cs.map (·.1)
theorem allB_take {l : List PT} {k : Nat} {t : PT} (h : l[k]? = some t) : allB (l.take (k + 1)) = allB (l.take k) ++ t.cs.map (·.1) := by
  unfold allB; rw [List.take_add_one, h, List.flatMap_append]; simp
theorem allB_length (l : List PT) : (allB l).length = copyN l := by
  unfold allB copyN
  rw [List.length_flatMap]
  congr 1
  apply List.map_congr_left
  intro t _
  rw [List.length_map]
theorem copyN_short (l : List TSh) : copyN (shortP l) ≤ sizeT l := by
  unfold copyN shortP sizeT
  rw [List.map_map]
  have : ∀ (l : List TSh) (n : Nat), ((l.zipIdx n).map ((fun t : PT => t.cs.length) ∘ fun q => (⟨q.2 + 1, rowsP q.1.rows, q.1.rs⟩ : PT))).sum ≤ (l.map fun p => p.rows.length + p.rs.length).sum := by
    intro l
    induction l with
    | nil => intro n; simp
    | cons p l ih =>
      intro n
      have := ih (n + 1)
      rw [List.zipIdx_cons, List.map_cons, List.sum_cons, List.map_cons, List.sum_cons]
      have e : ((fun t : PT => t.cs.length) ∘ fun q : TSh × Nat => (⟨q.2 + 1, rowsP q.1.rows, q.1.rs⟩ : PT)) (p, n) = p.rows.length := by simp [rowsP]
      rw [e]
      omega
  exact this l 0
theorem putsG_none {f : PM} {i : Int} : ∀ (cs : List Cp), f i = none → i ∉ cs.map (·.1) → putsG f cs i = none := by
  intro cs
  induction cs generalizing f with
  | nil => intro h _; exact h
  | cons c cs ih =>
    intro h hn
    simp only [List.map_cons, List.mem_cons, not_or] at hn
    exact ih (f := putG f c.1 c) (by rw [putG_other _ _ hn.1]; exact h) hn.2
theorem delsG_none {f : PM} {i : Int} : ∀ (rs : List Int), f i = none ∨ i ∈ rs → delsG f rs i = none := by
  intro rs
  induction rs generalizing f with
  | nil => intro h; rcases h with h | h; exact h; simp at h
  | cons r rs ih =>
    intro h
    refine ih (f := delG f r) ?_
    by_cases e : i = r
    · exact .inl (by rw [e, delG_same])
    · rw [delG_other _ e]
      rcases h with h | h
      · exact .inl h
      · exact .inr (by simpa [e] using h)
theorem ov_copied (l : List PT) (i : Int) (h : i ∉ allB l) : ov l i = none := by
  have : ∀ (l : List PT) (f : PM), f i = none → i ∉ allB l → l.foldl ovT f i = none := by
    intro l
    induction l with
    | nil => intro f h _; exact h
    | cons t l ih =>
      intro f h hn
      unfold allB at hn
      rw [List.flatMap_cons, List.mem_append, not_or] at hn
      exact ih _ (delsG_none _ (.inl (putsG_none _ h hn.1))) hn.2
  exact this l _ rfl h
theorem revoked_all (l : List PT) (s : Nat) (i : Int) : HasM (ov (l ++ [⟨s, [], allB l⟩])) i = false := by
  have : ov (l ++ [⟨s, [], allB l⟩]) i = none := by
    unfold ov
    rw [List.foldl_append]
    show delsG (putsG (l.foldl ovT fun _ => none) []) (allB l) i = none
    by_cases h : i ∈ allB l
    · exact delsG_none _ (.inr h)
    · exact delsG_none _ (.inl (ov_copied l i h))
  unfold HasM; rw [this]; rfl
/-- what is gathered -/
structure AInv (W : World) (v : Value) (zs : List Int) (wr : World) : Prop where
  row : IRow wr v zs
  lo : ∀ g, v.ownBlock = some g → W.heap.size ≤ g
  grow : Grow W wr
theorem AInv.app {W wr w2 wa : World} {v v' : Value} {zs : List Int} {z : Int} (h : AInv W v zs wr) (ht : Grow wr w2) (ha : AppAtE 3 1 w2 v (zs.map icell ++ [icell z]) v' wa) (hta : Touch (ownL v) w2 wa) : AInv W v' (zs ++ [z]) wa where
  row := by unfold IRow; rw [List.map_append]; exact ha.1
  lo := fun g e => by
    rcases ha.2 with h1 | ⟨g', h1, h2⟩
    · exact h.lo g (h1 ▸ e)
    · rw [e] at h1; cases h1
      have := ht.size
      have := h.grow.size
      omega
  grow := by
    have h2 := Grow.trans h.grow ht
    exact Below.trans h2 (hta.below h2.size (fun j hj => h.lo _ (ownL_mem.1 hj)))
theorem AppAtE.older {t sz : Nat} {W W' : World} {vw : Value} {l : List (List Value)} {v : Value} {w : World} (h : AppAtE t sz W' vw l v w) (hs : W.heap.size ≤ W'.heap.size) : AppAtE t sz W vw l v w :=
  ⟨h.1, h.2.imp id (fun ⟨g, h1, h2⟩ => ⟨g, h1, Nat.le_trans hs h2⟩)⟩
theorem IRow.oks {w : World} {v : Value} {cs : List Int} {l : List PT} (hok : ∀ t ∈ l, t.ok) : ∀ z ∈ allB l, IntOk z := by
  intro z hz
  unfold allB at hz
  obtain ⟨t, ht, hz2⟩ := List.mem_flatMap.1 hz
  obtain ⟨c, hc, rfl⟩ := List.mem_map.1 hz2
  exact ((hok t ht).cs c hc).1
set_option maxRecDepth 100000 in
set_option maxHeartbeats 8000000 in
theorem revokes_walk {w : World} {v : Value} {l : List TSh} (h : TShIn w v l) (hl : l.length ≤ 9223372036854775807) : Calls Try.prog 7 #[v] w fun e w' => e = .returned (.bool true) ∧ Below w.heap.size w w' := by
  have HT := Lib.hid h
  have HL := Lib.hid hl
  obtain ⟨a, cap, hv, _⟩ := h
  obtain ⟨n, hn⟩ : ∃ n, n = l.length := ⟨_, rfl⟩
  rw [← hn] at hv
  subst hv
  clear hl hn
  go_enter Try.func7, Try.ntmps7
  go_wp2_with fail
  refine (awake_ok w).mono ?_
  intro e w1 hpost
  obtain ⟨he, hg1⟩ := hpost
  subst he
  have HT1 := Lib.hid (HT.out.grow hg1)
  have HG1 := Lib.hid hg1
  clear hg1
  go_wp2_with fail
  refine (many19_ok HT1.out HL.out).mono ?_
  intro e w2 hpost
  obtain ⟨b, he, hg, hb⟩ := hpost
  subst he
  have HT2 := Lib.hid (HT1.out.grow hg)
  have HG2 := Lib.hid (Grow.trans HG1.out hg)
  cases b with
  | true =>
    clear hg hb
    go_wp2_with fail
    go_ret
    exact ⟨rfl, HG2.out⟩
  | false =>
    have HLN := Lib.hid (hb rfl).1
    have HSZ := Lib.hid (hb rfl).2
    clear hg hb HT HT1 HG1
    go_wp2_with fail
    refine (short_ok HT2.out HLN.out (Nat.le_trans HSZ.out (by omega))).mono ?_
    intro e w3 hpost
    obtain ⟨v3, xs, he, hs⟩ := hpost
    subst he
    have HS := Lib.hid hs
    obtain ⟨a3, c3, hv3⟩ := hs.row.len
    obtain ⟨m, hm⟩ : ∃ m, m = xs.length := ⟨_, rfl⟩
    have HM := Lib.hid hm
    rw [← hm] at hv3
    subst hv3
    have hmb : m ≤ 60 := by rw [hm, hs.len, shortP_length]; exact HLN.out
    have HCN := Lib.hid (show copyN (shortP l) ≤ 1000 from Nat.le_trans (copyN_short l) HSZ.out)
    have HTS := Lib.hid hs.ts
    obtain ⟨i0, hi0, hz0, hz1, hz2⟩ := info_parts info3
    have HI0 := Lib.hid hi0
    obtain ⟨i1, hi1, hy0, hy1, hy2⟩ := info_parts infoTr3
    have HI1 := Lib.hid hi1
    have HA0 := Lib.hid (show AInv w3 (.slice none 0 0) (allB ((shortP l).take 0)) w3 from ⟨rowNil _ _ _, fun g e => (by cases e), Grow.refl _⟩)
    obtain ⟨L, hLL⟩ : ∃ L, L = shortP l := ⟨_, rfl⟩
    rw [← hLL] at HS HCN HTS HA0
    have HLE := Lib.hid (show m = L.length by rw [hm, hs.len, hLL])
    clear hs hm hi0 hi1 hLL
    go_wp2_with fail
    go_loopw [4, 5] (fun t4 t5 wr => ∃ k : Nat, t5 = .int .i64 (k : Int) ∧ k ≤ m ∧ (∃ a4 n4 c4, t4 = .slice a4 n4 c4) ∧ Hid (AInv w3 t4 (allB (L.take k)) wr)) (fun _ t5 _ => m - (intOf t5).toNat)
    case atStart => exact ⟨0, by go_num, by omega, ⟨_, _, _, rfl⟩, HA0⟩
    case round =>
      obtain ⟨k, rfl, hkm, ⟨a4, n4, c4, rfl⟩, HA⟩ := hrel
      clear HA0
      by_cases hk : k < m
      · obtain ⟨x, hx⟩ : ∃ x, xs[k]? = some x := ⟨xs[k]'(by rw [← HM.out]; exact hk), by simp⟩
        have HXT := Lib.hid (show L[k]? = some x.t by rw [← HTS.out, List.getElem?_map, hx]; rfl)
        have HXK := Lib.hid hx
        have HXA := Lib.hid (HS.out.row.at_ x (List.mem_of_getElem? hx))
        obtain ⟨g, cap', ac, nc, cc, ar, nr, cr, hv, _, q1, _, hvc, hnc, _, _, _⟩ := HS.out.row.elem hx
        rw [← HM.out] at hv
        cases hv
        have HVC := Lib.hid hvc
        have HNC := Lib.hid hnc
        have HQ1 := Lib.hid (show w3.cell? ⟨g, k * 3 + 1, none⟩ = some (.slice ac nc cc) by rw [q1, hvc])
        have HGL := Lib.hid (World.block_lt_of_cell? _ _ q1)
        have hncb : nc ≤ 1000 := by
          have h1 := copyN_take HXT.out
          have h2 := copyN_le L (k + 1)
          have h3 := HCN.out
          omega
        have HAB := Lib.hid (show (allB (L.take k)).length ≤ 1000 by rw [allB_length]; exact Nat.le_trans (copyN_le _ _) HCN.out)
        have HA1 := Lib.hid (show AInv w3 (.slice a4 n4 c4) (allB (L.take k) ++ (x.t.cs.take 0).map (·.1)) wr by rw [List.take_zero, List.map_nil, List.append_nil]; exact HA.out)
        clear hx q1 hvc hnc
        obtain ⟨wo, rfl⟩ : ∃ wo : World, wo = wr := ⟨_, rfl⟩
        go_wp2_with fail
        go_loopw [4, 6] (fun t4 t6 wr => ∃ j : Nat, t6 = .int .i64 (j : Int) ∧ j ≤ nc ∧ (∃ a4 n4 c4, t4 = .slice a4 n4 c4) ∧ Hid (AInv w3 t4 (allB (L.take k) ++ (x.t.cs.take j).map (·.1)) wr)) (fun _ t6 _ => nc - (intOf t6).toNat)
        case atStart => exact ⟨0, by go_num, by omega, ⟨_, _, _, rfl⟩, HA1⟩
        case round =>
          obtain ⟨j, rfl, hjn, ⟨a4, n4, c4, rfl⟩, HAj⟩ := hrel
          have hq1 : wr.cell? ⟨g, k * 3 + 1, none⟩ = some (.slice ac nc cc) := (HAj.out.grow.cell (p := ⟨g, k * 3 + 1, none⟩) HGL.out).trans HQ1.out
          by_cases hj : j < nc
          · obtain ⟨c, hcj⟩ : ∃ c, x.t.cs[j]? = some c := ⟨x.t.cs[j]'(by rw [← HNC.out]; exact hj), by simp⟩
            have hrow := (HXA.out.grow HAj.out.grow).cs
            rw [HVC.out] at hrow
            obtain ⟨gc, cc', hvg, _⟩ := hrow.open_ (by rw [← HNC.out]; omega)
            rw [← HNC.out] at hvg
            cases hvg
            have hcell : wr.cell? ⟨gc, j * 257, none⟩ = some (.int .i64 c.1) := hrow.range hcj 0 _ rfl
            have HCJ := Lib.hid hcj
            have HLz := Lib.hid (show (allB (L.take k) ++ (x.t.cs.take j).map (·.1)).length + 1 ≤ 1000000 by rw [List.length_append, List.length_map, List.length_take]; have := HAB.out; omega)
            clear hcj hrow
            go_wp2_with (first | (at_builtin; refine wpList_append_row rfl _ _ 53 rfl 3 i0 (.int .i64 0) 1 8 Try.underlying53 HI0.out hz0 hz1 hz2 rfl (by omega) (.slice a4 n4 c4) ((allB (L.take k) ++ (x.t.cs.take j).map (·.1)).map icell) rfl (Row.kept HAj.out.row (Touch.alloc [] _ _) (by simp)) _ 1 (icell c.1) rfl rfl (new_cells _ _ _) (fun u hu => by rw [List.mem_singleton.1 hu]; rfl) (by rw [List.length_map]; exact HLz.out) (by omega) ?_; intro v' wa happ htch))
            have HA2 := Lib.hid (show AInv w3 v' (allB (L.take k) ++ (x.t.cs.take (j + 1)).map (·.1)) wa by
              have := HAj.out.app (Grow.alloc _ _) happ htch
              rw [List.append_assoc] at this
              rw [List.take_add_one, HCJ.out, List.map_append]
              exact this)
            clear happ htch
            obtain ⟨a5, n5, c5, rfl⟩ := rowSlice HA2.out.row
            go_roundw
            case rel => exact ⟨j + 1, by go_num, by omega, ⟨_, _, _, rfl⟩, HA2⟩
            case measure => simp [intOf]; omega
          · obtain rfl : j = nc := by omega
            have HA3 := Lib.hid (show AInv w3 (.slice a4 n4 c4) (allB (L.take (k + 1))) wr by have := HAj.out; rw [HNC.out, List.take_length] at this; rw [allB_take HXT.out]; exact this)
            go_wp2_with fail
            go_roundw
            case rel => exact ⟨k + 1, by go_num, by omega, ⟨_, _, _, rfl⟩, HA3⟩
            case measure => simp [intOf]; omega
      · obtain rfl : k = m := by omega
        have HAF := Lib.hid (show AInv w3 (.slice a4 n4 c4) (allB L) wr by have := HA.out; rw [HLE.out, List.take_length] at this; exact this)
        have HAL := Lib.hid (show (allB L).length ≤ 1000 by rw [allB_length]; exact HCN.out)
        have HOK := Lib.hid (show ∀ t ∈ L, t.ok from fun t ht => by rw [← HTS.out] at ht; obtain ⟨x, hx, rfl⟩ := List.mem_map.1 ht; exact (HS.out.row.at_ x hx).ok)
        have HXN := Lib.hid (show TAt wr ⟨⟨1, [], allB L⟩, .slice none 0 0, .slice a4 n4 c4⟩ from ⟨rowNil _ _ _, HAF.out.row, ⟨fun c hc => absurd hc (by simp), IRow.oks (w := wr) (v := .slice none 0 0) (cs := []) HOK.out, Nat.le_trans HAL.out (by omega)⟩⟩)
        have HTR := Lib.hid (HS.out.row.grow HAF.out.grow)
        have HLX := Lib.hid (show xs.length + 1 ≤ 1000000 by have := HM.out; omega)
        have HX1 := Lib.hid (tcell_one HXN.out)
        go_wp2_with (first | (refine wpList_bs_tr1 rfl (.tmp 43) rfl ⟨⟨1, [], allB L⟩, .slice none 0 0, .slice a4 n4 c4⟩ rfl HXN.out ?_; intro wT gT hrT hgT) | (at_builtin; refine wpList_append_rows rfl (.tmp 41) (.tmp 44) 25 rfl 55 i1 (.agg #[.int .u32 0, .slice none 0 0, .slice none 0 0]) 3 56 Try.underlying25 HI1.out hy0 hy1 hy2 rfl (by omega) (.slice a3 k c3) (.slice (some ⟨gT, 0, none⟩) 1 1) (xs.map tcell) ([⟨⟨1, [], allB L⟩, .slice none 0 0, .slice a4 n4 c4⟩].map tcell) rfl (Row.kept HTR.out.row (Touch.of_below (S := []) hgT) (by simp)) rfl (Row.src hrT.row (fun c hc => by rw [List.map_cons, List.map_nil] at hc; rw [List.mem_singleton.1 hc]; exact HX1.out)) (by rw [List.length_map]; exact HLX.out) (by omega) ?_; intro v' wa happ htch))
        have hlo : ∀ g, (Value.slice a3 k c3).ownBlock = some g → g < w3.heap.size := fun g e => Row.lt HS.out.row.row e
        have hg4 : Grow w3 wT := Grow.trans HAF.out.grow hgT
        have hat : TAt wa ⟨⟨1, [], allB L⟩, .slice none 0 0, .slice a4 n4 c4⟩ := (HXN.out.grow hgT).touch htch (fun g hg hm => by
          have := hlo g (ownL_mem.1 hm)
          rcases hg with e | e
          · cases e
          · have := HAF.out.lo g e; omega)
        obtain ⟨x, hx⟩ := HS.out.app ((Touch.of_below (S := ownL (.slice a3 k c3)) hg4).trans htch (fun i hi => .inl hi)) ⟨⟨⟨1, [], allB L⟩, .slice none 0 0, .slice a4 n4 c4⟩, rfl, happ.older hg4.size, hat, fun g hg => by
          rcases hg with e | e
          · cases e
          · exact HAF.out.lo g e⟩
        have HSX := Lib.hid hx
        have HG := Lib.hid (Grow.trans HG2.out hx.grow)
        obtain ⟨a9, n9, c9, rfl⟩ := rowSlice hx.row.row
        have HOV := Lib.hid (overlay_ok hx.row (by have h1 := hx.len; simp only [List.length_append, List.length_cons, List.length_nil] at h1 ⊢; have h2 := HLE.out; omega) (by rw [hx.ts]; unfold copyN; rw [List.map_append, List.sum_append]; have := HCN.out; unfold copyN at this; simp; omega))
        rw [hx.ts] at HOV
        clear hlo hg4 hat hx happ htch hgT hrT
        go_wp2_with fail
        refine HOV.out.mono ?_
        intro e w9 hpost
        obtain ⟨v9, zs, he, hr, hc, hg, _⟩ := hpost
        subst he
        obtain rfl := hr.unique (rising_none (revoked_all L 1))
        obtain ⟨az, cz, rfl⟩ := CRow.len hc
        have HG9 := Lib.hid (Grow.trans HG.out hg)
        clear hr hc hg
        go_wp2_with fail
        go_ret
        exact ⟨rfl, HG9.out⟩
#print axioms revokes_walk
end Go.Proofs.Ytlhhbkpocpnebaa
