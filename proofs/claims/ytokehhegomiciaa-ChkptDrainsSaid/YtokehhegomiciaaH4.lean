/- A list of committed transactions: least; a Step's cells. -/
import Derived.Test.YtokehhegomiciaaH3
set_option linter.unusedVariables false
set_option linter.unusedSimpArgs false
namespace Go.Proofs.Ytokehhegomiciaa
open Go.RowKit Go.Maps

/-! ### plainly -/
def leastL (l : List Cp) : Int := match l with
  | [] => -1
  | c :: _ => c.1
theorem findC_none {l : List Cp} {b : Int} (h : findC l b = none) : ∀ c ∈ l, c.1 ≠ b := by
  unfold findC at h
  simpa using h
theorem findC_of_mem {l : List Cp} (hl : (l.map (·.1)).Pairwise (· < ·)) {c : Cp} (hc : c ∈ l) : findC l c.1 = some c := by
  induction l with
  | nil => cases hc
  | cons d l ih =>
    rw [List.map_cons, List.pairwise_cons] at hl
    unfold findC
    rw [List.find?_cons]
    rcases List.mem_cons.1 hc with rfl | hc
    · simp
    · have := hl.1 c.1 (List.mem_map_of_mem hc)
      rw [show decide (d.1 = c.1) = false by simp; omega]
      exact ih hl.2 hc
theorem rise_at {l : List Cp} (hl : (l.map (·.1)).Pairwise (· < ·)) {i j : Nat} {c d : Cp} (hi : l[i]? = some c) (hj : l[j]? = some d) (h : i < j) : c.1 < d.1 := by
  rw [List.pairwise_iff_getElem] at hl
  have h1 := (List.getElem?_eq_some_iff.1 hi)
  have h2 := (List.getElem?_eq_some_iff.1 hj)
  have := hl i j (by rw [List.length_map]; exact h1.1) (by rw [List.length_map]; exact h2.1) h
  rw [List.getElem_map, List.getElem_map, h1.2, h2.2] at this
  exact this
/-- the first block that has a copy left is the least -/
theorem least_at {cs left : List Cp} (hl : (cs.map (·.1)).Pairwise (· < ·)) (hs : left.Sublist cs) {i : Nat} {c : Cp} (hi : cs[i]? = some c) (hb : ∀ (j : Nat) (d : Cp), j < i → cs[j]? = some d → findC left d.1 = none) (hf : (findC left c.1).isSome = true) : leastL left = c.1 := by
  obtain ⟨e, he⟩ := Option.isSome_iff_exists.1 hf
  obtain ⟨hem, he1⟩ := findC_mem he
  cases left with
  | nil => cases hem
  | cons d left =>
    show d.1 = c.1
    have hll : ((d :: left).map (·.1)).Pairwise (· < ·) := hl.sublist (hs.map _)
    obtain ⟨j, hj⟩ := List.mem_iff_getElem?.1 (hs.subset (List.mem_cons_self ..) : d ∈ cs)
    have h1 : ¬ j < i := by
      intro h
      have := hb j d h hj
      have h2 := findC_of_mem hll (List.mem_cons_self ..)
      rw [h2] at this
      cases this
    rcases List.mem_cons.1 hem with rfl | hem
    · exact he1
    · rw [List.map_cons, List.pairwise_cons] at hll
      have h2 := hll.1 e.1 (List.mem_map_of_mem hem)
      rcases Nat.lt_or_ge i j with h | h
      · have := rise_at hl hi hj h; omega
      · obtain rfl : i = j := by omega
        rw [hi] at hj; cases hj; rfl
theorem least_end {cs left : List Cp} (hl : (cs.map (·.1)).Pairwise (· < ·)) (hs : left.Sublist cs) (hb : ∀ (j : Nat) (d : Cp), cs[j]? = some d → findC left d.1 = none) : left = [] := by
  cases left with
  | nil => rfl
  | cons d left =>
    obtain ⟨j, hj⟩ := List.mem_iff_getElem?.1 (hs.subset (List.mem_cons_self ..) : d ∈ cs)
    have := hb j d hj
    rw [findC_of_mem (hl.sublist (hs.map _)) (List.mem_cons_self ..)] at this
    cases this
/-- what is to be done next -/
structure SV where
  kind : Nat
  block : Int
  data : Blk
  hs : Nat
  hst : Int
  give : Int
def zeroS : SV := ⟨0, 0, zeroB, 0, 0, 0⟩
def tail3 (a : Nat) (b c : Int) : List Value := [.int .u32 (a : Int), .int .i64 b, .int .i64 c]
def scell (s : SV) : List Value := .int .u8 (s.kind : Int) :: .int .i64 s.block :: (bc s.data ++ tail3 s.hs s.hst s.give)
theorem scell_length {s : SV} (h : s.data.length = 256) : (scell s).length = 261 := by unfold scell; simp [bc_length, h, tail3]
theorem scell_one (s : SV) : ∀ v ∈ scell s, v.oneCell' = true := by
  intro v hv
  unfold scell at hv
  rcases List.mem_cons.1 hv with rfl | hv
  · rfl
  · rcases List.mem_cons.1 hv with rfl | hv
    · rfl
    · rcases List.mem_append.1 hv with hv | hv
      · exact bc_one _ v hv
      · simp only [tail3, List.mem_cons, List.not_mem_nil, or_false] at hv
        rcases hv with rfl | rfl | rfl <;> rfl
theorem info57 : (Try.prog.info? 57).map (fun i => (i.zero, i.size)) = some (some (.agg (scell zeroS).toArray), 261) := by kernel_rfl
theorem zero57 (w : World) : (zeroValue 57).run Try.prog w = .ok (.agg (scell zeroS).toArray) w := (zero_of_info info57).1 w
theorem size57 : (Try.prog.info? 57).map (·.size) = some 261 := (zero_of_info info57).2
theorem setMany_cons (x : Value) : ∀ (vs xs : List Value) (o : Nat), setMany (x :: xs) (o + 1) vs = x :: setMany xs o vs := by
  intro vs
  induction vs with
  | nil => intro xs o; rfl
  | cons v r ih => intro xs o; rw [setMany, setMany, List.set_cons_succ, ih]
theorem setMany_behind (vs : List Value) : ∀ (a b : List Value), setMany (a ++ b) a.length vs = a ++ setMany b 0 vs := by
  intro a
  induction a with
  | nil => intro b; rfl
  | cons x a ih => intro b; rw [List.cons_append, List.length_cons, setMany_cons, ih, List.cons_append]
theorem setMany_fore : ∀ (vs a b : List Value), a.length = vs.length → setMany (a ++ b) 0 vs = vs ++ b := by
  intro vs
  induction vs with
  | nil => intro a b h; have := List.eq_nil_of_length_eq_zero h; subst this; rfl
  | cons v r ih =>
    intro a b h
    cases a with
    | nil => cases h
    | cons x a => rw [setMany, List.cons_append, List.set_cons_zero, setMany_cons, ih a b (by simpa using h), List.cons_append]
def offS : Nat → Option (Nat × Nat) := fun i => ([(0, 1), (1, 1), (2, 256), (258, 2), (260, 1)] : List (Nat × Nat)).toArray[i]?
theorem built57 (parts : List (Nat × Value)) : Try.prog.built 57 parts = Instr.fill offS (scell zeroS).toArray parts := by kernel_rfl
theorem zs_len : (scell zeroS).toArray.size = 261 := by rw [List.size_toArray]; exact scell_length List.length_replicate
theorem built_none : Try.prog.built 57 [] = some (scell zeroS).toArray := by rw [built57, Instr.fill]
theorem built_write (b : Int) (x : Blk) (hx : x.length = 256) : Try.prog.built 57 [(0, .int .u8 1), (1, .int .i64 b), (2, .agg (bc x).toArray)] = some (scell ⟨1, b, x, 0, 0, 0⟩).toArray := by
  have hl : (bc x).length = 256 := by rw [bc_length]; exact hx
  have hz : (bc zeroB).length = 256 := by rw [bc_zero, List.length_replicate]
  have hzz := zs_len
  rw [built57, fill_cons (off := 0) (size := 1) rfl rfl (by omega)]
  rw [fill_cons (off := 1) (size := 1) rfl rfl (by rw [List.size_toArray, setMany_length]; rw [List.size_toArray] at hzz; simp only; omega)]
  rw [fill_cons (off := 2) (size := 256) rfl (by show (bc x).toArray.size = 256; rw [List.size_toArray, hl]) (by rw [List.size_toArray, setMany_length]; simp only [setMany_length]; rw [List.size_toArray] at hzz; omega)]
  rw [Instr.fill]
  congr 2
  show setMany (setMany (setMany (scell zeroS) 0 [.int .u8 1]) 1 [.int .i64 b]) 2 (bc x) = scell ⟨1, b, x, 0, 0, 0⟩
  unfold scell zeroS
  simp only
  generalize bc zeroB = z at *
  generalize bc x = y at *
  simp only [setMany, List.set_cons_zero, List.set_cons_succ]
  rw [setMany_cons, setMany_cons, setMany_fore _ _ _ (by omega)]
  rfl
set_option maxRecDepth 100000 in
theorem built_head (n : Nat) (c : Int) : Try.prog.built 57 [(0, .int .u8 2), (3, .agg #[.int .u32 (n : Int), .int .i64 0]), (4, .int .i64 c)] = some (scell ⟨2, 0, zeroB, n, 0, c⟩).toArray := by
  have hzz := zs_len
  have hz : (bc zeroB).length = 256 := by rw [bc_zero, List.length_replicate]
  rw [built57, fill_cons (off := 0) (size := 1) rfl rfl (by omega)]
  rw [fill_cons (off := 258) (size := 2) rfl rfl (by rw [List.size_toArray, setMany_length]; rw [List.size_toArray] at hzz; simp only; omega)]
  rw [fill_cons (off := 260) (size := 1) rfl rfl (by rw [List.size_toArray, setMany_length]; simp only [setMany_length]; rw [List.size_toArray] at hzz; omega)]
  rw [Instr.fill]
  congr 2

/-! ### least -/
set_option maxRecDepth 100000 in
set_option maxHeartbeats 2000000 in
theorem least_ok {w : World} {B : Nat} {g : G4} {s : CS} {T : List Nat} {va : Value} {xs : List CV} (h : LSt w B g s T va xs) {t : CT} {r : List CT} (ht : s.all = t :: r) : Calls Try.prog 37 #[.pointer (some ⟨B, 0, none⟩)] w fun e w' => e = .returned (.int .i64 (leastL t.left)) ∧ Grow w w' := by
  obtain ⟨a, cap, rfl⟩ := h.va
  have hl := h.rowlen
  obtain ⟨x, hx⟩ : ∃ x, xs[0]? = some x := ⟨xs[0]'(by rw [hl, ht]; simp), by simp⟩
  have hxt : x.t = t := by have := h.at_all hx; rw [ht] at this; simpa using this.symm
  obtain ⟨n, hn⟩ : ∃ n, n = s.all.length := ⟨_, rfl⟩
  have hn0 : 0 < n := by rw [hn, ht]; simp
  have HH := Lib.hid h
  obtain ⟨ga, oa, rfl, hr, q2, q3, q4⟩ := h.li.elem hx
  rw [Nat.zero_mul, Nat.add_zero] at q2 q3 q4
  have c7 : w.cell? ⟨B, 7, none⟩ = some (.slice (some ⟨ga, oa, none⟩) n cap) := by rw [hn]; exact cell_at h.li.obj 7
  have hxi := h.li.is x (List.mem_of_getElem? hx)
  have HM := Lib.hid hxi.map
  have HBL := Lib.hid hxi.bl
  have HOK := Lib.hid hxi.ok
  have hml := hxi.map.len (Try.underlying80) 3
  obtain ⟨ab, cb, hvb⟩ := IRow.len hxi.bl
  rw [List.length_map] at hvb
  obtain ⟨nc, hnc⟩ : ∃ nc, nc = x.t.cs.length := ⟨_, rfl⟩
  have hncb : nc ≤ 600 := by rw [hnc]; exact hxi.ok.len
  rw [← hnc] at hvb
  have HNC := Lib.hid hnc
  rw [hvb] at q3
  have HVB := Lib.hid hvb
  rw [show (pr x.t.left).length = x.t.left.length from List.length_map _] at hml
  have hz40 := zero40
  have hzs40 := zsize40
  generalize hZC : (ccell zeroC).toArray = ZC at *
  have HZS := Lib.hid hzs40
  rw [← hxt]
  have b0 : (0 : Int) < (n : Int) := by omega
  clear h hx hxi hr hl ht hxt hvb hnc q2 hZC hzs40 hn
  by_cases hne : x.t.left = []
  · have e0 : x.t.left.length = 0 := by rw [hne]; rfl
    rw [e0] at hml
    have HE := Lib.hid (show leastL x.t.left = -1 by rw [hne]; rfl)
    clear hne e0
    go_enter Try.func37, Try.ntmps37
    go_wp2_with fail
    go_ret
    exact ⟨by rw [HE.out]; rfl, Grow.refl _⟩
  · have hl0 : ¬ (x.t.left.length : Int) = 0 := by
      intro e
      exact hne (List.eq_nil_of_length_eq_zero (by omega))
    have d0 : ((x.t.left.length : Int) == 0) = false := by simpa using hl0
    generalize (x.t.left.length : Int) = ln at *
    have HNE := Lib.hid hne
    clear hne hl0
    go_enter Try.func37, Try.ntmps37
    go_wp2_with fail
    go_loopw [24] (fun t24 wr => ∃ i : Nat, t24 = .int .i64 (i : Int) ∧ i ≤ nc ∧ Hid (Grow w wr ∧ ∀ (j : Nat) (d : Cp), j < i → x.t.cs[j]? = some d → findC x.t.left d.1 = none)) (fun t24 _ => nc - (intOf t24).toNat)
    case atStart => exact ⟨0, by go_num, by omega, Lib.hid ⟨Grow.refl _, fun j d h => absurd h (by omega)⟩⟩
    case round =>
      obtain ⟨i, rfl, hin, HI⟩ := hrel
      by_cases hi : i < nc
      · obtain ⟨c, hc⟩ : ∃ c, x.t.cs[i]? = some c := ⟨x.t.cs[i]'(by rw [← HNC.out]; exact hi), by simp⟩
        have hbl := HBL.out.grow HI.out.1
        rw [HVB.out] at hbl
        obtain ⟨gb, cb', hvg, _⟩ := hbl.open_ (by rw [List.length_map, ← HNC.out]; omega)
        rw [List.length_map, ← HNC.out] at hvg
        cases hvg
        have y0 := IRow.cell hbl (k := i) (z := c.1) (by rw [List.getElem?_map, hc]; rfl)
        have hW := HH.out.grow HI.out.1
        have q4 : wr.cell? ⟨ga, oa + 4, none⟩ = some (.map (some x.m)) := by rw [Below.cell HI.out.1 (World.block_lt_of_cell? w _ q4)]; exact q4
        have hm1 := HM.out.kept (Touch.of_below (S := []) HI.out.1) (by simp)
        have HM0 := Lib.hid hm1
        have HM1 := Lib.hid (hm1.kept (Touch.alloc [] wr (.cells ZC 35)) (by simp))
        have HIO := Lib.hid (HOK.out.cs c (List.mem_of_getElem? hc)).1.1
        have HC := Lib.hid hc
        obtain ⟨e, he⟩ : ∃ e, (findC x.t.left c.1).getD zeroC = e := ⟨_, rfl⟩
        obtain ⟨f, hf⟩ : ∃ f, (findC x.t.left c.1).isSome = f := ⟨_, rfl⟩
        have HEL := Lib.hid (show e.2.length = 256 by
          rw [← he]
          cases e1 : findC x.t.left c.1 with
          | none => exact zeroC_ok
          | some d => exact (HOK.out.cs d (HOK.out.sub.subset (findC_mem e1).1)).1.2)
        have HE := Lib.hid he
        have HF := Lib.hid hf
        have HSC := Lib.hid (csize HEL.out)
        have HSE := Lib.hid (show ZC.size = (ccell e).toArray.size by rw [HZS.out, List.size_toArray, ccell_length HEL.out])
        have HOC := Lib.hid (show (ccell e).toArray.all (·.oneCell') = true from all_oneCell_toArray (ccell_one e))
        clear hbl hc hm1 he hf hW
        go_upto_region 8 with (first | (at_lookup; refine wpList_lookC rfl _ _ rfl x.m 600 x.t.left rfl HM0.out c.1 HIO.out rfl HE.out HF.out ?_) | (at_lookup; refine wpList_lookC rfl _ _ rfl x.m 600 x.t.left rfl HM1.out c.1 HIO.out rfl HE.out HF.out ?_) | (refine wpList_store_row rfl 35 _ _ rfl wr.heap.size (ccell e).toArray rfl rfl 35 ZC (heap_alloc_last _ _) HSC.out HSE.out HOC.out ?_))
        have HG2 := Lib.hid (show Grow w ((wr.alloc (.cells ZC 35)).setRow wr.heap.size (ccell e).toArray) from below_setRow (Grow.trans HI.out.1 (Grow.alloc _ _)) HI.out.1.size _)
        generalize ((wr.alloc (.cells ZC 35)).setRow wr.heap.size (ccell e).toArray) = W2 at *
        clear q4 y0
        cases f with
        | true =>
          have HL := Lib.hid (least_at HOK.out.lt HOK.out.sub HC.out HI.out.2 HF.out)
          go_wp2_with fail
          go_ret
          exact ⟨by rw [HL.out]; rfl, HG2.out⟩
        | false =>
          have HI2 := Lib.hid (show Grow w W2 ∧ ∀ (j : Nat) (d : Cp), j < i + 1 → x.t.cs[j]? = some d → findC x.t.left d.1 = none from ⟨HG2.out, fun j d hj hd => by
            rcases Nat.lt_or_ge j i with h | h
            · exact HI.out.2 j d h hd
            · obtain rfl : j = i := by omega
              rw [HC.out] at hd; cases hd
              exact Option.not_isSome_iff_eq_none.1 (by rw [HF.out]; simp)⟩)
          go_wp2_with fail
          go_roundw
          case rel => exact ⟨i + 1, by go_num, by omega, HI2⟩
          case measure => simp [intOf]; omega
      · obtain rfl : i = nc := by omega
        exact absurd (least_end HOK.out.lt HOK.out.sub (fun j d hd => HI.out.2 j d (by rw [HNC.out]; exact (List.getElem?_eq_some_iff.1 hd).1) hd)) HNE.out
#print axioms least_ok
end Go.Proofs.Ytokehhegomiciaa
