/- awake, CommitNil: the walks. -/
import Derived.Test.YtieknecbheeekaaDoorN3
set_option linter.unusedVariables false
set_option linter.unusedSimpArgs false
namespace Go.Proofs.YtieknecbheeekaaDoor
open Go.RowKit Go.Maps
set_option maxRecDepth 100000 in
theorem buildSlice_copy (c : Cp) (hc : c.2.length = 256) (w : World) : (Instr.buildSlice 25 1 #[(0, .agg (ccell c).toArray)]).run Tryd.prog w = .ok (.slice (some ⟨w.heap.size, 0, none⟩) 1 1) (w.alloc (.cells (ccell c).toArray 72)) := by
  obtain ⟨i0, hi, hz0, hz1, hz2⟩ := info_parts info40
  have hl := ccell_length hc
  generalize ccell c = c at *
  have hfill : Instr.fill (fun i => some (i * 257, 257)) ((Array.range 257).map ((ccell zeroC).toArray[· % (ccell zeroC).toArray.size]!)) [(0, .agg c.toArray)] = some c.toArray := by
    rw [fill_cons (off := 0 * 257) (size := 257) rfl (by show c.toArray.size = 257; rw [List.size_toArray, hl]) (by simp), Instr.fill]
    congr 2
    rw [Nat.zero_mul]
    exact setMany_all _ _ (by show _ = c.toArray.toList.length; simp [hl])
  unfold Instr.buildSlice
  simp only [Sem.run_bind, run_underlying Tryd.underlying25, Result.andThen_ok, sizeOf, typeInfo, hi, hz1, zeroValue, hz0]
  simp [hi, hz1, hz0]
  rw [show (Value.agg (ccell zeroC).toArray).cells = (ccell zeroC).toArray from rfl, hfill]
  simp [newRow, go_sem]
theorem built40 (parts : List (Nat × Value)) : Tryd.prog.built 72 parts = Instr.fill (fun i => ([(0, 1), (1, 256)] : List (Nat × Nat)).toArray[i]?) (ccell zeroC).toArray parts := by kernel_rfl
theorem built_copy (b : Int) (x : Blk) (hx : x.length = 256) : Tryd.prog.built 72 [(0, .int .i64 b), (1, .agg (bc x).toArray)] = some (ccell (b, x)).toArray := by
  have hl : (bc x).length = 256 := by rw [bc_length]; exact hx
  have hz : (bc zeroB).length = 256 := by rw [bc_length]; exact zeroB_len
  rw [built40, fill_cons (off := 0) (size := 1) rfl rfl (by rw [List.size_toArray, ccell_length zeroC_ok]; omega)]
  rw [fill_cons (off := 1) (size := 256) rfl (by show (bc x).toArray.size = 256; rw [List.size_toArray, hl]) (by rw [List.size_toArray, setMany_length]; show 1 + 256 ≤ (ccell zeroC).length; rw [ccell_length zeroC_ok]; omega)]
  rw [Instr.fill]
  congr 2
  show setMany (setMany (ccell zeroC) 0 [.int .i64 b]) 1 (bc x) = ccell (b, x)
  unfold ccell
  simp only [setMany, List.set_cons_zero]
  rw [setMany_cons]
  have := setMany_fore (bc x) (bc zeroB) [] (by rw [hz, hl])
  rw [List.append_nil, List.append_nil] at this
  rw [show zeroC.snd = zeroB from rfl, this]
/-- a copy built; one copy in a row of its own: the world behind it under a letter -/
theorem wpList_build_copy {w : World} {ops : Array Oper} {rest : List Oper} {o : Oper} {a : Act} {Q : Exit → Act → World → Prop} (hgd : o.guard = none) (x y : Operand) (ho : o.op = .build 72 #[(0, x), (1, y)]) (z : Int) (X : Blk) (hX : X.length = 256) (hx : a.eval x = .int .i64 z) (hy : a.eval y = .agg (bc X).toArray)
    (hK : wpList Tryd.prog ops Q rest (a.put o.dst (.agg (ccell (z, X)).toArray)) w) : wpList Tryd.prog ops Q (o :: rest) a w := by
  have hb : Tryd.prog.built 72 ((#[(0, x), (1, y)] : Array (Nat × Operand)).map fun (i, x) => (i, a.eval x)).toList = some (ccell (z, X)).toArray := by
    simp only [List.map_toArray, List.map_cons, List.map_nil, hx, hy]; exact built_copy z X hX
  refine wpList_build hgd 72 _ ho (by rw [hb]; rfl) ?_
  rw [hb]; exact hK
/-- one copy, two copies, in a row of their own -/
theorem wpList_bs_see1 {w : World} {ops : Array Oper} {rest : List Oper} {o : Oper} {a : Act} {Q : Exit → Act → World → Prop} (hgd : o.guard = none) (x : Operand) (ho : o.op = .buildSlice 25 1 #[(0, x)]) (c : Cp) (hc : CpOk c) (hx : a.eval x = .agg (ccell c).toArray)
    (hK : ∀ w' g, CSee w' (.slice (some ⟨g, 0, none⟩) 1 1) [c] → Grow w w' → w.heap.size ≤ g → wpList Tryd.prog ops Q rest (a.put o.dst (.slice (some ⟨g, 0, none⟩) 1 1)) w') : wpList Tryd.prog ops Q (o :: rest) a w :=
  wpList_buildSlice hgd _ 1 _ ho (by simp only [List.map_toArray, List.map_cons, List.map_nil, hx]; exact buildSlice_copy c hc.2 w)
    (hK _ _ ⟨see_new2 (l := [ccell c]) (by simpa using ccell_length hc.2) (by simpa using heap_alloc_last w _), fun y hy => by rw [List.mem_singleton.1 hy]; exact hc⟩ (Grow.alloc _ _) (Nat.le_refl _))
theorem plain_one : Plain1 (fillB 1) := ⟨by kernel_rfl, by kernel_rfl, by kernel_rfl, by kernel_rfl⟩
theorem rng {w : World} {g o : Nat} {cs : List Value} (h : w.rangeAt g o cs) (hg : g < w.heap.size) {j : Nat} {u : Value} (hj : cs[j]? = some u) : g < w.heap.size ∧ w.cell? ⟨g, o + j, none⟩ = some u := ⟨hg, h j u hj⟩
set_option maxRecDepth 100000 in
set_option maxHeartbeats 8000000 in
theorem awake_ok {W : World} (hT : Tab W) : Calls Tryd.prog 9 #[] W fun e w' => e = .returned (.bool true) ∧ Grow W w' := by
  have HT := Lib.hid hT
  clear hT
  go_enter Tryd.func9, Tryd.ntmps9
  go_wp2_with fail
  refine (fill_any 1 (by omega) _).mono ?_
  rintro e w1 ⟨rfl, hg1⟩
  have HG1 := Lib.hid hg1
  have HXL := Lib.hid (fillB_length 1)
  have HX1 := Lib.hid plain_one
  have HFA := Lib.hid (fill_any 1 (by omega))
  obtain ⟨x, hx⟩ : ∃ x, x = fillB 1 := ⟨_, rfl⟩
  rw [← hx] at HXL HX1 HFA ⊢
  clear hg1 hx
  have HCP := Lib.hid (show CpOk (60, x) from ⟨⟨by show (-9223372036854775808 : Int) ≤ 60; omega, by show (60 : Int) ≤ 9223372036854775807; omega⟩, HXL.out⟩)
  go_upto_region 2 with (first | (refine wpList_build_copy rfl _ _ rfl 60 x HXL.out rfl rfl ?_) | (refine wpList_bs_see1 rfl _ rfl (60, x) HCP.out rfl ?_; intro w7 g7 hs7 hg7 hl7))
  have HS7 := Lib.hid hs7
  have HG7 := Lib.hid (Grow.trans HG1.out hg7)
  clear hs7 hg7 hl7
  obtain ⟨B, hB⟩ : ∃ B, B = w7.heap.size := ⟨_, rfl⟩
  have HB := Lib.hid (show (w7.alloc (.cells #[.int .u32 7, .slice (some ⟨g7, 0, none⟩) 1 1, .slice none 0 0] 28)).heap[B]? = some (.cells #[.int .u32 7, .slice (some ⟨g7, 0, none⟩) 1 1, .slice none 0 0] 28) by rw [hB]; exact heap_alloc_last _ _)
  have HG8 := Lib.hid (show Grow w7 (w7.alloc (.cells #[.int .u32 7, .slice (some ⟨g7, 0, none⟩) 1 1, .slice none 0 0] 28)) from Grow.alloc _ _)
  rw [← hB]
  generalize w7.alloc (.cells #[.int .u32 7, .slice (some ⟨g7, 0, none⟩) 1 1, .slice none 0 0] 28) = w8 at *
  clear hB
  have HGW := Lib.hid (Grow.trans HG7.out HG8.out)
  have hlt := (Array.getElem?_eq_some_iff.1 HB.out).1
  refine aw_reg2 B g7 x w8 (Lib.hid (HT.out.grow HGW.out)) HXL HX1 (Lib.hid (HS7.out.grow HG8.out)) (Lib.hid ⟨⟨hlt, cell_at HB.out 0⟩, ⟨hlt, cell_at HB.out 1⟩, ⟨hlt, cell_at HB.out 2⟩⟩) _ _ _ _ _ _ _ _ _ _ _ _ _ _ _ _ _ _ _ _ _ _ _ _ _ _ _ _ _ _ _ _ _ _ _ _ _ _ _ _ _ _ _ _ _ _ _ _ _ _ _ _ _ _ _ _ _ _ _ _ _ _ _ _ _ _ _ _ _ _ _ _ _ _ _ _ _ _ (Lib.hid ?h2)
  clear hlt
  intro u8 u9 u10 u11 u12 u13 u14 u15 w9 vp hpv hg9
  obtain ⟨hs, bs, hpl⟩ := hpv
  have HG9 := Lib.hid (Grow.trans HGW.out hg9)
  have h1 := (hpl.some (by simp)).2
  have h2 := hpl.len
  have h3 := hpl.single ⟨⟨by omega, by omega⟩, rfl, (60, x), rfl, by show (0 : Int) ≤ 60; omega, by show (60 : Int) < 2048; omega, HX1.out⟩ (60, x) rfl
  obtain ⟨h, rfl⟩ : ∃ h, hs = [h] := by
    cases hs with
    | nil => simp at h1
    | cons a t => cases t with
      | nil => exact ⟨a, rfl⟩
      | cons b t => simp at h1
  obtain ⟨b0, b1, b2, rfl⟩ : ∃ b0 b1 b2, bs = [b0, b1, b2] := by
    match bs, h2 with
    | [a, b, c], _ => exact ⟨a, b, c, rfl⟩
  have h4 : b1 = x := by simpa using h3
  subst h4
  have hrow := hpl.row
  clear hpl h1 h2 h3
  have hpe : (plan [61] [3, 4, 5] [h] [b0, b1, b2]).map acell = [acell (1, 61, zeroB), acell (2, 2, h), acell (2, 5, b0), acell (2, 6, b1), acell (3, 0, zeroB), acell (2, 7, b2), acell (3, 0, zeroB)] := rfl
  rw [hpe] at hrow
  obtain ⟨g, cap, hv, hgl, _⟩ := Row.open_ hrow (by simp)
  subst hv
  have HROW := Lib.hid hrow
  have HGL := Lib.hid hgl
  clear hrow hpe hg9 hgl
  go_upto_region 5 with (fail)
  obtain ⟨BZ, hBZ⟩ : ∃ BZ, (bc b1).toArray = BZ := ⟨_, rfl⟩
  refine aw_reg5 g cap (bc b1) BZ w9 (Lib.hid (rng (Row.range HROW.out (i := 0) rfl) HGL.out (j := 0) rfl)) (Lib.hid (rng (Row.range HROW.out (i := 0) rfl) HGL.out (j := 1) rfl)) (Lib.hid (rng (Row.range HROW.out (i := 1) rfl) HGL.out (j := 1) rfl)) (Lib.hid (rng (Row.range HROW.out (i := 2) rfl) HGL.out (j := 1) rfl))
    (Lib.hid ⟨HGL.out, fun j u hj => by have := Row.range HROW.out (i := 3) rfl (j + 2) u hj; rwa [show 3 * 258 + (j + 2) = 776 + j by omega] at this⟩) (Lib.hid (rng (Row.range HROW.out (i := 4) rfl) HGL.out (j := 0) rfl)) (Lib.hid (rng (Row.range HROW.out (i := 5) rfl) HGL.out (j := 1) rfl)) (Lib.hid (rng (Row.range HROW.out (i := 6) rfl) HGL.out (j := 0) rfl))
    (Lib.hid hBZ) (Lib.hid (bsizeL HXL.out)) (fun w => by rw [← hBZ, eqlBlk b1 b1 HXL.out HXL.out, decide_eq_true rfl]) (fun p q w => by rw [← hBZ]; exact gB _ _ _ _ _ _) (Lib.hid (fun w => by rw [← hBZ]; exact HFA.out w)) _ _ _ _ _ _ _ _ _ _ _ _ _ _ _ _ _ _ _ _ _ _ _ _ _ _ _ _ _ _ _ _ _ _ _ _ _ _ _ _ _ _ _ _ _ _ _ _ _ _ _ _ _ _ _ _ _ _ _ _ _ _ _ _ _ _ _ _ _ _ _ _ _ _ _ _ _ _ (Lib.hid ?h5)
  intro u23 u24 u25 u26 u27 u28 u29 u30 u31 u32 u33 u34 u35 u36 u37 u38 u39 u40 u41 u42 u43 u44 u45 u46 u47 u48 u49 u50 u51 u52 u53 u54 u55 u56 u57 u58 u59 u60 u61 u62 u63 u64 u65 u66 u67 u68 u69 u70 u71 u72 u73 u74 u75 u76 u77 w10 hg10
  have HG10 := Lib.hid (Grow.trans HG9.out hg10)
  clear hg10
  go_wp2
  go_ret
  exact ⟨rfl, HG10.out⟩
#print axioms awake_ok
end Go.Proofs.YtieknecbheeekaaDoor
