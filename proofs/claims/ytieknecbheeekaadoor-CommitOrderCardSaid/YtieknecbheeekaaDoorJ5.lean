/- jblock.writeRows of tags and of numbers: the walks; WriteDesc, WriteRevoke. -/
import Derived.Test.YtieknecbheeekaaDoorJ4
set_option linter.unusedVariables false
set_option linter.unusedSimpArgs false
namespace Go.Proofs.YtieknecbheeekaaDoor
open Go.RowKit Go.Maps

structure Tg where
  b : Nat
  e : Bool
def tgc (t : Tg) : List Value := [.int .u32 (t.b : Int), .bool t.e]
def ncell (n : Nat) : List Value := [.int .u32 (n : Int)]
/-- what is known between two rows: the block that is written, the result's, the world -/
structure WrInv (w : World) (B O : Nat) (Z : Array Value) (x : Blk) (wr : World) : Prop where
  b : wr.heap[B]? = some (.cells (bc x).toArray 34)
  len : x.length = 256
  o : wr.heap[O]? = some (.cells Z 34)
  grow : Grow w wr
theorem WrInv.later {w : World} {B O : Nat} {Z : Array Value} {x : Blk} {wr w' : World} (h : WrInv w B O Z x wr) (hg : Grow wr w') : WrInv w B O Z x w' :=
  ⟨(hg.block _ (Array.getElem?_eq_some_iff.1 h.b).1).trans h.b, h.len, (hg.block _ (Array.getElem?_eq_some_iff.1 h.o).1).trans h.o, Grow.trans h.grow hg⟩
theorem WrInv.put {w : World} {B O : Nat} {Z : Array Value} {x : Blk} {wr w' : World} (h : WrInv w B O Z x wr) (hx : ∃ x' : Blk, w'.heap[B]? = some (.cells (bc x').toArray 34) ∧ x'.length = 256) (ht : Touch [B] wr w') (hlt : O < B) (hO : O = w.heap.size) : ∃ x : Blk, WrInv w B O Z x w' := by
  obtain ⟨x', h1, h2⟩ := hx
  exact ⟨x', h1, h2, (ht.block _ (Array.getElem?_eq_some_iff.1 h.o).1 (by simp; omega)).trans h.o, Below.trans h.grow (ht.below h.grow.size (by simp; omega))⟩
def WrEPost (w : World) (n : Nat) (e : Ending) (w' : World) : Prop := ∃ (X : Blk) (er : Int), e = .returned (.tuple #[.agg (bc X).toArray, .int .i64 er]) ∧ X.length = 256 ∧ Grow w w' ∧ (n = 1 → er = 0)
theorem slice_blk4 (B at_ : Nat) (h : at_ + 4 ≤ 256) (h0 : 0 < at_) (w : World) : (Instr.sliceAt 34 (.pointer (some ⟨B, 0, none⟩)) (some (.int .i64 (at_ : Int))) (some (.int .i64 ((at_ : Int) + 4))) none).run Tryd.prog w = .ok (.slice (some ⟨B, at_, none⟩) 4 (256 - at_)) w := by
  have b0 : (0 : Int) ≤ (at_ : Int) := by omega
  have b1 : (at_ : Int) ≤ (at_ : Int) + 4 := by omega
  have b2 : (at_ : Int) + 4 ≤ 256 := by omega
  go_simp
  exact ⟨by omega, by omega⟩
theorem builtZ : Tryd.prog.built 34 [] = some (bc zeroB).toArray := by kernel_rfl

set_option maxRecDepth 100000 in
set_option maxHeartbeats 8000000 in
theorem wrt_ok {w : World} {v : Value} {l : List Tg} (ht : See w 2 v (l.map tgc)) (hb : ∀ t ∈ l, t.b < 4294967296) (s : Nat) (h1 : 1 ≤ s) (h2 : s ≤ 2147483648) (hn : 1 ≤ l.length) (hn2 : l.length ≤ 30) :
    Calls Tryd.prog 58 #[.int .u8 1, .int .u32 (s : Int), v, .int .i64 30, .int .i64 8, .func (.func 59) #[] #[], .func (.func 60) #[] #[]] w (WrEPost w l.length) := by
  have HT := Lib.hid ht
  have HBD := Lib.hid hb
  obtain ⟨n, hnn⟩ : ∃ n, n = l.length := ⟨_, rfl⟩
  obtain ⟨a, cap, hv, _⟩ := ht
  rw [List.length_map, ← hnn] at hv
  rw [← hnn] at hn hn2 ⊢
  have HN := Lib.hid hnn
  subst hv
  have hz := zero32
  have HZ := Lib.hid zero_size
  obtain ⟨Z, hZ⟩ : ∃ Z, Z = (bc zeroB).toArray := ⟨_, rfl⟩
  rw [← hZ] at hz HZ
  have hbz : Tryd.prog.built 34 [] = some Z := by rw [hZ]; exact builtZ
  have HBZ := Lib.hid hbz
  clear hbz
  have d0 : decide ((n : Int) < 1) = false := decide_eq_false (by omega)
  have d1 : decide ((n : Int) > 30) = false := decide_eq_false (by omega)
  have hw1 : IntKind.u32.wrap (n : Int) = (n : Int) := by rw [IntKind.wrap_u32]; omega
  have HO0 := Lib.hid (show (w.alloc (.cells Z 34)).heap[w.heap.size]? = some (.cells Z 34) from heap_alloc_last _ _)
  have HG0 := Lib.hid (Grow.alloc w (.cells Z 34))
  have HZE := Lib.hid hZ
  clear hZ hnn hb
  go_enter Tryd.func58, Tryd.ntmps58
  go_wp2_with fail
  obtain ⟨w0, hw0⟩ : ∃ w0, w0 = w.alloc (.cells Z 34) := ⟨_, rfl⟩
  rw [← hw0] at HO0 HG0 ⊢
  clear hw0
  refine (maySeq_yes s h1 h2 w0).mono ?_
  rintro e w' ⟨rfl, rfl⟩
  go_wp2_with fail
  refine (begin_ok 1 s n (by omega) (by omega) (by omega) w').mono ?_
  intro e w2 hpost
  obtain ⟨he, hg⟩ := hpost
  subst he
  have HO2 := Lib.hid ((hg.block _ (Array.getElem?_eq_some_iff.1 HO0.out).1).trans HO0.out)
  have HG2 := Lib.hid (Grow.trans HG0.out hg)
  have HL := Lib.hid (beginB_length 1 s n)
  obtain ⟨R, hR⟩ : ∃ R, R = (bc (beginB 1 s n)).toArray := ⟨_, rfl⟩
  have HR := Lib.hid hR
  have HRs := Lib.hid (show R.size = 256 by rw [hR, List.size_toArray, bc_length, HL.out])
  have HR1 := Lib.hid (show R.all (·.oneCell') = true by rw [hR]; exact all_oneCell_toArray (bc_one _))
  rw [← hR]
  clear hR hg
  go_upto_region 4 with (refine wpList_store_row rfl 34 _ _ rfl w2.heap.size R rfl rfl 34 Z (heap_alloc_last _ _) (by rw [HRs.out]; exact size32) (by rw [HRs.out]; exact HZ.out) HR1.out ?_)
  have HB3 := Lib.hid (show ((w2.alloc (.cells Z 34)).setRow w2.heap.size R).heap[w2.heap.size]? = some (.cells R 34) from setRow_heap _ _ _ _ _ _ (heap_alloc_last _ _))
  have hg23 : Grow w2 ((w2.alloc (.cells Z 34)).setRow w2.heap.size R) := below_setRow (Grow.alloc _ _) (Nat.le_refl _) _
  have HO3 := Lib.hid ((hg23.block _ (Array.getElem?_eq_some_iff.1 HO2.out).1).trans HO2.out)
  have HG3 := Lib.hid (Grow.trans HG2.out hg23)
  have HW2 := Lib.hid (show w.heap.size < w2.heap.size from (Array.getElem?_eq_some_iff.1 HO2.out).1)
  clear hg23
  generalize (w2.alloc (.cells Z 34)).setRow w2.heap.size R = w3 at *
  obtain ⟨B, hB⟩ : ∃ B, B = w2.heap.size := ⟨_, rfl⟩
  rw [← hB] at HB3 HW2 ⊢
  obtain ⟨O, hO⟩ : ∃ O, O = w.heap.size := ⟨_, rfl⟩
  rw [← hO] at HO3 HW2 ⊢
  have HOE := Lib.hid hO
  clear hB hO HO0 HO2 HG0 HG2
  have HK0 := Lib.hid (show ∃ x : Blk, WrInv w B O Z x w3 from ⟨beginB 1 s n, by rw [← HR.out]; exact HB3.out, HL.out, HO3.out, HG3.out⟩)
  go_wp2_with fail
  go_loopw [43] (fun t43 wr => ∃ i : Nat, i ≤ n ∧ t43 = .int .i64 (i : Int) ∧ Hid (∃ x : Blk, WrInv w B O Z x wr)) (fun t43 _ => n - (intOf t43).toNat)
  case atStart => exact ⟨0, by omega, by go_num, HK0⟩
  case round =>
    clear HK0 HB3 HO3 HG3
    obtain ⟨i, hin, rfl, HK⟩ := hrel
    obtain ⟨x, hx⟩ := HK.out
    have HX := Lib.hid hx
    clear hx
    by_cases hi : i < n
    · obtain ⟨t, hti⟩ : ∃ t, l[i]? = some t := ⟨l[i]'(by rw [← HN.out]; exact hi), by simp⟩
      have hsee := HT.out.grow HX.out.grow
      obtain ⟨a', cap', hv', hat⟩ := hsee
      simp only [Value.slice.injEq] at hv'
      obtain ⟨rfl, hl0, rfl⟩ := hv'
      clear hl0
      obtain ⟨gl, ol, rfl, hgl, hrl⟩ := hat i (tgc t) (by rw [List.getElem?_map, hti]; rfl)
      have HAT := Lib.hid hat
      have HBT := Lib.hid (HBD.out t (List.mem_of_getElem? hti))
      have q0 : wr.cell? ⟨gl, ol + i * 2, none⟩ = some (.int .u32 (t.b : Int)) := hrl 0 _ rfl
      have q1 : wr.cell? ⟨gl, ol + i * 2 + 1, none⟩ = some (.bool t.e) := hrl 1 _ rfl
      have HGL := Lib.hid hgl
      have hn1 : (n = 1 → i = 0) := by omega
      have HN1 := Lib.hid hn1
      have b0 : (0 : Int) ≤ (i : Int) := by omega
      have b1 : (i : Int) < (n : Int) := by omega
      clear hat hgl hrl hti hn1
      go_upto_region 7 with fail
      have HTB := Lib.hid (heap_alloc_last wr (.cells #[.int .u32 (t.b : Int), .bool t.e] 104))
      have HX5 := Lib.hid (HX.out.later (Grow.alloc wr (.cells #[.int .u32 (t.b : Int), .bool t.e] 104)))
      have HG5 := Lib.hid (Grow.alloc wr (.cells #[.int .u32 (t.b : Int), .bool t.e] 104))
      have HS5 := Lib.hid (show wr.heap.size ≤ (wr.alloc (.cells #[.int .u32 (t.b : Int), .bool t.e] 104)).heap.size by simp)
      generalize wr.alloc (.cells #[.int .u32 (t.b : Int), .bool t.e] 104) = w5 at *
      obtain ⟨TB, hTB⟩ : ∃ TB, TB = wr.heap.size := ⟨_, rfl⟩
      rw [← hTB] at HTB ⊢
      have HTBl := Lib.hid (Array.getElem?_eq_some_iff.1 HTB.out).1
      have HT0 := Lib.hid (show TB < w5.heap.size ∧ w5.cell? ⟨TB, 0, none⟩ = some (.int .u32 (t.b : Int)) from ⟨HTBl.out, cell_at HTB.out 0⟩)
      have HT1 := Lib.hid (show TB < w5.heap.size ∧ w5.cell? ⟨TB, 1, none⟩ = some (.bool t.e) from ⟨HTBl.out, cell_at HTB.out 1⟩)
      clear q0 q1 hTB
      rcases Nat.eq_zero_or_pos i with h0 | h0
      · have HI0 := Lib.hid h0
        clear h0
        refine wrt_reg7a i w5 HI0 _ _ _ _ _ _ _ _ _ _ _ _ _ _ _ _ _ _ _ _ _ _ _ _ _ _ _ _ _ _ _ _ _ _ _ _ _ _ _ _ _ _ _ _ _ _ _ _ _ _ _ _ _ _ _ _ _ _ _ _ _ _ _ _ _ _ _ _ _ _ _ _ _ _ _ _ _ _ (Lib.hid ?h7a)
        intro u48 u49 u50 u51 u52 u53 u54 u55 u56 u57 u58 u59 u60 u61 wz hRz
        have HXz := Lib.hid (HX5.out.later (hRz.below (Nat.le_refl _) (by simp)))
        have HT0z := Lib.hid (show TB < wz.heap.size ∧ wz.cell? ⟨TB, 0, none⟩ = some (.int .u32 (t.b : Int)) from ⟨Nat.lt_of_lt_of_le HTBl.out hRz.size, (hRz.cell (a := ⟨TB, 0, none⟩) HTBl.out (by simp)).trans HT0.out.2⟩)
        have HT1z := Lib.hid (show TB < wz.heap.size ∧ wz.cell? ⟨TB, 1, none⟩ = some (.bool t.e) from ⟨Nat.lt_of_lt_of_le HTBl.out hRz.size, (hRz.cell (a := ⟨TB, 1, none⟩) HTBl.out (by simp)).trans HT1.out.2⟩)
        clear hRz
        have hat0 : IntKind.i64.wrap ((i : Int) * 8) = (i : Int) * 8 := by rw [IntKind.wrap_i64] <;> omega
        obtain ⟨at_, hat_⟩ : ∃ at_ : Nat, at_ = 16 + i * 8 := ⟨_, rfl⟩
        have hat1 : IntKind.i64.wrap (16 + (i : Int) * 8) = (at_ : Int) := by rw [IntKind.wrap_i64] <;> omega
        have HA := Lib.hid (show at_ + 8 ≤ 256 ∧ 0 < at_ by omega)
        have HW := Lib.hid (show IntKind.i64.wrap ((at_ : Int) + 8) = (at_ : Int) + 8 by rw [IntKind.wrap_i64] <;> omega)
        clear hat_
        go_upto_region 10 with fail
        clear hat0 hat1
        refine wrt_reg10 B TB at_ t.b t.e wz HA HW HT0z HT1z (Lib.hid fun w' hg => putTag_ok ((hg.block _ (Array.getElem?_eq_some_iff.1 HXz.out.b).1).trans HXz.out.b) HXz.out.len at_ _ t.b t.e HA.out.1 HBT.out) _ _ _ _ _ _ _ _ _ _ _ _ _ _ _ _ _ _ _ _ _ _ _ _ _ _ _ _ _ _ _ _ _ _ _ _ _ _ _ _ _ _ _ _ _ _ _ _ _ _ _ _ _ _ _ _ _ _ _ _ _ _ _ _ _ _ _ _ _ _ _ _ _ _ (Lib.hid ?h10a)
        intro u68 u69 u70 u71 u72 u73 u74 u75 w8 hx8 ht8
        have HK8 := Lib.hid (HXz.out.put hx8 ht8 HW2.out HOE.out)
        clear hx8 ht8
        go_wp2_with fail
        go_roundw
        case rel => exact ⟨i + 1, by omega, by go_num, HK8⟩
        case measure => simp [intOf]; omega
      · obtain ⟨j, hj⟩ : ∃ j, i = j + 1 := ⟨i - 1, by omega⟩
        obtain ⟨t', htj⟩ : ∃ t', l[j]? = some t' := ⟨l[j]'(by rw [← HN.out]; omega), by simp⟩
        obtain ⟨gl2, ol2, hg2, hgl2, hrl2⟩ := HAT.out j (tgc t') (by rw [List.getElem?_map, htj]; rfl)
        cases hg2
        have HC0 := Lib.hid (show gl < w5.heap.size ∧ w5.cell? ⟨gl, ol + j * 2, none⟩ = some (.int .u32 (t'.b : Int)) from ⟨Nat.lt_of_lt_of_le hgl2 HS5.out, (Below.cell HG5.out (p := ⟨gl, ol + j * 2, none⟩) hgl2).trans (hrl2 0 _ rfl)⟩)
        have HC1 := Lib.hid (show gl < w5.heap.size ∧ w5.cell? ⟨gl, ol + j * 2 + 1, none⟩ = some (.bool t'.e) from ⟨Nat.lt_of_lt_of_le hgl2 HS5.out, (Below.cell HG5.out (p := ⟨gl, ol + j * 2 + 1, none⟩) hgl2).trans (hrl2 1 _ rfl)⟩)
        have HJW := Lib.hid (show IntKind.i64.wrap ((i : Int) - 1) = (j : Int) by rw [IntKind.wrap_i64] <;> omega)
        obtain ⟨q, hq⟩ : ∃ q, decide (t.b ≤ t'.b) = q := ⟨_, rfl⟩
        have HQ := Lib.hid hq
        have HIJ := Lib.hid hj
        clear hgl2 hrl2 htj hj hq
        refine wrt_reg7b gl ol n cap TB i j t'.b t.b t'.e t.e q w5 HIJ (Lib.hid hi) HJW HC0 HC1 HT0 HT1 HQ _ _ _ _ _ _ _ _ _ _ _ _ _ _ _ _ _ _ _ _ _ _ _ _ _ _ _ _ _ _ _ _ _ _ _ _ _ _ _ _ _ _ _ _ _ _ _ _ _ _ _ _ _ _ _ _ _ _ _ _ _ _ _ _ _ _ _ _ _ _ _ _ _ _ _ (Lib.hid ?h7b)
        intro u48 u49 u50 u51 u52 u53 u54 u55 u56 u57 u58 u59 u60 u61 wz hRz
        have HXz := Lib.hid (HX5.out.later (hRz.below (Nat.le_refl _) (by simp)))
        have HT0z := Lib.hid (show TB < wz.heap.size ∧ wz.cell? ⟨TB, 0, none⟩ = some (.int .u32 (t.b : Int)) from ⟨Nat.lt_of_lt_of_le HTBl.out hRz.size, (hRz.cell (a := ⟨TB, 0, none⟩) HTBl.out (by simp)).trans HT0.out.2⟩)
        have HT1z := Lib.hid (show TB < wz.heap.size ∧ wz.cell? ⟨TB, 1, none⟩ = some (.bool t.e) from ⟨Nat.lt_of_lt_of_le HTBl.out hRz.size, (hRz.cell (a := ⟨TB, 1, none⟩) HTBl.out (by simp)).trans HT1.out.2⟩)
        clear hRz
        cases q with
        | true =>
          have HNB := Lib.hid (show n ≠ 1 from fun e => by have := HN1.out e; omega)
          have HZs := Lib.hid (show Z.size = 256 from HZ.out)
          have HZ1 := Lib.hid (show Z.all (·.oneCell') = true by rw [HZE.out]; exact all_oneCell_toArray (bc_one _))
          go_wp2_with (first | (refine wpList_build rfl 34 _ rfl (by simp only [List.map_toArray, List.map_nil]; exact HBZ.out) ?_) | (refine wpList_store_row rfl _ _ _ rfl O Z rfl rfl 34 Z HXz.out.o (by rw [HZs.out]; exact size32) rfl HZ1.out ?_))
          refine bodyPost_ret (results_row_tmp rfl _ _ O 34 Z (0, 0) _ _ rfl (setRow_heap _ _ _ _ _ _ HXz.out.o) Tryd.underlying34 rfl (by rw [HZs.out]; exact size32) rfl) rfl ⟨zeroB, 2, by rw [HZE.out]; rfl, zeroB_ok, below_setRow HXz.out.grow (by rw [HOE.out]; exact Nat.le_refl _) _, fun h => absurd h HNB.out⟩
        | false =>
          have hat0 : IntKind.i64.wrap ((i : Int) * 8) = (i : Int) * 8 := by rw [IntKind.wrap_i64] <;> omega
          obtain ⟨at_, hat_⟩ : ∃ at_ : Nat, at_ = 16 + i * 8 := ⟨_, rfl⟩
          have hat1 : IntKind.i64.wrap (16 + (i : Int) * 8) = (at_ : Int) := by rw [IntKind.wrap_i64] <;> omega
          have HA := Lib.hid (show at_ + 8 ≤ 256 ∧ 0 < at_ by omega)
          have HW := Lib.hid (show IntKind.i64.wrap ((at_ : Int) + 8) = (at_ : Int) + 8 by rw [IntKind.wrap_i64] <;> omega)
          clear hat_
          go_upto_region 10 with fail
          clear hat0 hat1
          refine wrt_reg10 B TB at_ t.b t.e wz HA HW HT0z HT1z (Lib.hid fun w' hg => putTag_ok ((hg.block _ (Array.getElem?_eq_some_iff.1 HXz.out.b).1).trans HXz.out.b) HXz.out.len at_ _ t.b t.e HA.out.1 HBT.out) _ _ _ _ _ _ _ _ _ _ _ _ _ _ _ _ _ _ _ _ _ _ _ _ _ _ _ _ _ _ _ _ _ _ _ _ _ _ _ _ _ _ _ _ _ _ _ _ _ _ _ _ _ _ _ _ _ _ _ _ _ _ _ _ _ _ _ _ _ _ _ _ _ _ (Lib.hid ?h10b)
          intro u68 u69 u70 u71 u72 u73 u74 u75 w8 hx8 ht8
          have HK8 := Lib.hid (HXz.out.put hx8 ht8 HW2.out HOE.out)
          clear hx8 ht8
          go_wp2_with fail
          go_roundw
          case rel => exact ⟨i + 1, by omega, by go_num, HK8⟩
          case measure => simp [intOf]; omega
    · obtain rfl : i = n := by omega
      obtain ⟨Y, hY⟩ : ∃ Y, Y = (bc x).toArray := ⟨_, rfl⟩
      have HY := Lib.hid hY
      have HB4 := Lib.hid (show wr.heap[B]? = some (.cells Y 34) by rw [hY]; exact HX.out.b)
      have HYs := Lib.hid (show Y.size = 256 by rw [hY, List.size_toArray, bc_length, HX.out.len])
      have HY1 := Lib.hid (show Y.all (·.oneCell') = true by rw [hY]; exact all_oneCell_toArray (bc_one _))
      clear hY
      go_wp2_with (first | (refine wpList_load_row rfl _ _ rfl B rfl 34 Y (0, 0) _ HB4.out Tryd.underlying34 rfl (by rw [HYs.out]; exact size32) ?_) | (refine wpList_store_row rfl _ _ _ rfl O Y rfl rfl 34 Z HX.out.o (by rw [HYs.out]; exact size32) (by rw [HYs.out]; exact HZ.out) HY1.out ?_))
      refine bodyPost_ret (results_row_tmp rfl _ _ O 34 Y (0, 0) _ _ rfl (setRow_heap _ _ _ _ _ _ HX.out.o) Tryd.underlying34 rfl (by rw [HYs.out]; exact size32) rfl) rfl ⟨x, 0, by rw [HY.out]; rfl, HX.out.len, below_setRow HX.out.grow (by rw [HOE.out]; exact Nat.le_refl _) _, fun _ => rfl⟩
#print axioms wrt_ok

set_option maxRecDepth 100000 in
set_option maxHeartbeats 8000000 in
theorem wrn_ok {w : World} {v : Value} {l : List Nat} (ht : See w 1 v (l.map ncell)) (hb : ∀ t ∈ l, t < 4294967296) (s : Nat) (h1 : 1 ≤ s) (h2 : s ≤ 2147483648) (hn : 1 ≤ l.length) (hn2 : l.length ≤ 60) :
    Calls Tryd.prog 61 #[.int .u8 3, .int .u32 (s : Int), v, .int .i64 60, .int .i64 4, .func (.func 62) #[] #[], .func (.func 63) #[] #[]] w (WrEPost w l.length) := by
  have HT := Lib.hid ht
  have HBD := Lib.hid hb
  obtain ⟨n, hnn⟩ : ∃ n, n = l.length := ⟨_, rfl⟩
  obtain ⟨a, cap, hv, _⟩ := ht
  rw [List.length_map, ← hnn] at hv
  rw [← hnn] at hn hn2 ⊢
  have HN := Lib.hid hnn
  subst hv
  have hz := zero32
  have HZ := Lib.hid zero_size
  obtain ⟨Z, hZ⟩ : ∃ Z, Z = (bc zeroB).toArray := ⟨_, rfl⟩
  rw [← hZ] at hz HZ
  have hbz : Tryd.prog.built 34 [] = some Z := by rw [hZ]; exact builtZ
  have HBZ := Lib.hid hbz
  clear hbz
  have d0 : decide ((n : Int) < 1) = false := decide_eq_false (by omega)
  have d1 : decide ((n : Int) > 60) = false := decide_eq_false (by omega)
  have hw1 : IntKind.u32.wrap (n : Int) = (n : Int) := by rw [IntKind.wrap_u32]; omega
  have HO0 := Lib.hid (show (w.alloc (.cells Z 34)).heap[w.heap.size]? = some (.cells Z 34) from heap_alloc_last _ _)
  have HG0 := Lib.hid (Grow.alloc w (.cells Z 34))
  have HZE := Lib.hid hZ
  clear hZ hnn hb
  go_enter Tryd.func61, Tryd.ntmps61
  go_wp2_with fail
  obtain ⟨w0, hw0⟩ : ∃ w0, w0 = w.alloc (.cells Z 34) := ⟨_, rfl⟩
  rw [← hw0] at HO0 HG0 ⊢
  clear hw0
  refine (maySeq_yes s h1 h2 w0).mono ?_
  rintro e w' ⟨rfl, rfl⟩
  go_wp2_with fail
  refine (begin_ok 3 s n (by omega) (by omega) (by omega) w').mono ?_
  intro e w2 hpost
  obtain ⟨he, hg⟩ := hpost
  subst he
  have HO2 := Lib.hid ((hg.block _ (Array.getElem?_eq_some_iff.1 HO0.out).1).trans HO0.out)
  have HG2 := Lib.hid (Grow.trans HG0.out hg)
  have HL := Lib.hid (beginB_length 3 s n)
  obtain ⟨R, hR⟩ : ∃ R, R = (bc (beginB 3 s n)).toArray := ⟨_, rfl⟩
  have HR := Lib.hid hR
  have HRs := Lib.hid (show R.size = 256 by rw [hR, List.size_toArray, bc_length, HL.out])
  have HR1 := Lib.hid (show R.all (·.oneCell') = true by rw [hR]; exact all_oneCell_toArray (bc_one _))
  rw [← hR]
  clear hR hg
  go_upto_region 4 with (refine wpList_store_row rfl 34 _ _ rfl w2.heap.size R rfl rfl 34 Z (heap_alloc_last _ _) (by rw [HRs.out]; exact size32) (by rw [HRs.out]; exact HZ.out) HR1.out ?_)
  have HB3 := Lib.hid (show ((w2.alloc (.cells Z 34)).setRow w2.heap.size R).heap[w2.heap.size]? = some (.cells R 34) from setRow_heap _ _ _ _ _ _ (heap_alloc_last _ _))
  have hg23 : Grow w2 ((w2.alloc (.cells Z 34)).setRow w2.heap.size R) := below_setRow (Grow.alloc _ _) (Nat.le_refl _) _
  have HO3 := Lib.hid ((hg23.block _ (Array.getElem?_eq_some_iff.1 HO2.out).1).trans HO2.out)
  have HG3 := Lib.hid (Grow.trans HG2.out hg23)
  have HW2 := Lib.hid (show w.heap.size < w2.heap.size from (Array.getElem?_eq_some_iff.1 HO2.out).1)
  clear hg23
  generalize (w2.alloc (.cells Z 34)).setRow w2.heap.size R = w3 at *
  obtain ⟨B, hB⟩ : ∃ B, B = w2.heap.size := ⟨_, rfl⟩
  rw [← hB] at HB3 HW2 ⊢
  obtain ⟨O, hO⟩ : ∃ O, O = w.heap.size := ⟨_, rfl⟩
  rw [← hO] at HO3 HW2 ⊢
  have HOE := Lib.hid hO
  clear hB hO HO0 HO2 HG0 HG2
  have HK0 := Lib.hid (show ∃ x : Blk, WrInv w B O Z x w3 from ⟨beginB 3 s n, by rw [← HR.out]; exact HB3.out, HL.out, HO3.out, HG3.out⟩)
  go_wp2_with fail
  go_loopw [43] (fun t43 wr => ∃ i : Nat, i ≤ n ∧ t43 = .int .i64 (i : Int) ∧ Hid (∃ x : Blk, WrInv w B O Z x wr)) (fun t43 _ => n - (intOf t43).toNat)
  case atStart => exact ⟨0, by omega, by go_num, HK0⟩
  case round =>
    clear HK0 HB3 HO3 HG3
    obtain ⟨i, hin, rfl, HK⟩ := hrel
    obtain ⟨x, hx⟩ := HK.out
    have HX := Lib.hid hx
    clear hx
    by_cases hi : i < n
    · obtain ⟨t, hti⟩ : ∃ t, l[i]? = some t := ⟨l[i]'(by rw [← HN.out]; exact hi), by simp⟩
      have hsee := HT.out.grow HX.out.grow
      obtain ⟨a', cap', hv', hat⟩ := hsee
      simp only [Value.slice.injEq] at hv'
      obtain ⟨rfl, hl0, rfl⟩ := hv'
      clear hl0
      obtain ⟨gl, ol, rfl, hgl, hrl⟩ := hat i (ncell t) (by rw [List.getElem?_map, hti]; rfl)
      have HAT := Lib.hid hat
      have HBT := Lib.hid (HBD.out t (List.mem_of_getElem? hti))
      have q0 : wr.cell? ⟨gl, ol + i, none⟩ = some (.int .u32 (t : Int)) := by have := hrl 0 _ rfl; rwa [Nat.mul_one, Nat.add_zero] at this
      have HGL := Lib.hid hgl
      have hn1 : (n = 1 → i = 0) := by omega
      have HN1 := Lib.hid hn1
      have b0 : (0 : Int) ≤ (i : Int) := by omega
      have b1 : (i : Int) < (n : Int) := by omega
      clear hat hgl hrl hti hn1
      rcases Nat.eq_zero_or_pos i with h0 | h0
      · have HI0 := Lib.hid h0
        have d9 : ¬ (0 < i) := by omega
        clear h0
        have HXz := Lib.hid HX.out
        have hat0 : IntKind.i64.wrap ((i : Int) * 4) = (i : Int) * 4 := by rw [IntKind.wrap_i64] <;> omega
        obtain ⟨at_, hat_⟩ : ∃ at_ : Nat, at_ = 16 + i * 4 := ⟨_, rfl⟩
        have hat1 : IntKind.i64.wrap (16 + (i : Int) * 4) = (at_ : Int) := by rw [IntKind.wrap_i64] <;> omega
        have hat2 : IntKind.i64.wrap ((at_ : Int) + 4) = (at_ : Int) + 4 := by rw [IntKind.wrap_i64] <;> omega
        have HA := Lib.hid (show at_ + 4 ≤ 256 ∧ 0 < at_ by omega)
        have hsl := fun w => slice_blk4 B at_ HA.out.1 HA.out.2 w
        go_upto_region 10 with fail
        first | rw [show (16 + (i : Int) * 4) = (at_ : Int) by omega] | skip
        clear hat_ hat0 hat1
        go_wp2_with fail
        refine (putNum_ok HXz.out.b HXz.out.len at_ _ t HA.out.1 HBT.out).mono ?_
        intro e w8 hp
        obtain ⟨⟨u, rfl⟩, hx8, ht8⟩ := hp
        have HK8 := Lib.hid (HXz.out.put hx8 ht8 HW2.out HOE.out)
        clear hx8 ht8 hat2 hsl
        go_wp2_with fail
        go_roundw
        case rel => exact ⟨i + 1, by omega, by go_num, HK8⟩
        case measure => simp [intOf]; omega
      · obtain ⟨j, hj⟩ : ∃ j, i = j + 1 := ⟨i - 1, by omega⟩
        obtain ⟨t', htj⟩ : ∃ t', l[j]? = some t' := ⟨l[j]'(by rw [← HN.out]; omega), by simp⟩
        obtain ⟨gl2, ol2, hg2, hgl2, hrl2⟩ := HAT.out j (ncell t') (by rw [List.getElem?_map, htj]; rfl)
        cases hg2
        have p0 : wr.cell? ⟨gl, ol + j, none⟩ = some (.int .u32 (t' : Int)) := by have := hrl2 0 _ rfl; rwa [Nat.mul_one, Nat.add_zero] at this
        have hjw : IntKind.i64.wrap ((i : Int) - 1) = (j : Int) := by rw [IntKind.wrap_i64] <;> omega
        have e0 : (0 : Int) ≤ (j : Int) := by omega
        have e1 : (j : Int) < (n : Int) := by omega
        have e2 : (0 : Int) < (i : Int) := by omega
        obtain ⟨q, hq⟩ : ∃ q, decide (t ≤ t') = q := ⟨_, rfl⟩
        have hq2 : decide ((t' : Int) ≥ (t : Int)) = q := by rw [← hq]; exact decide_eq_decide.2 (by omega)
        have HJ := Lib.hid hj
        clear hgl2 hrl2 htj hj
        go_wp2_with fail
        refine (numKey_ok t' _).mono ?_
        intro e w6 hp
        obtain ⟨rfl, hg6⟩ := hp
        have HX6 := Lib.hid (HX.out.later hg6)
        clear hg6 p0 q0
        go_wp2_with fail
        refine (numKey_ok t _).mono ?_
        intro e wz hp
        obtain ⟨rfl, hg7⟩ := hp
        have HXz := Lib.hid (HX6.out.later hg7)
        clear hg7 hjw
        cases q with
        | true =>
          have HNB := Lib.hid (show n ≠ 1 from fun e => by have := HN1.out e; omega)
          have HZs := Lib.hid (show Z.size = 256 from HZ.out)
          have HZ1 := Lib.hid (show Z.all (·.oneCell') = true by rw [HZE.out]; exact all_oneCell_toArray (bc_one _))
          go_wp2_with (first | (refine wpList_build rfl 34 _ rfl (by simp only [List.map_toArray, List.map_nil]; exact HBZ.out) ?_) | (refine wpList_store_row rfl _ _ _ rfl O Z rfl rfl 34 Z HXz.out.o (by rw [HZs.out]; exact size32) rfl HZ1.out ?_))
          refine bodyPost_ret (results_row_tmp rfl _ _ O 34 Z (0, 0) _ _ rfl (setRow_heap _ _ _ _ _ _ HXz.out.o) Tryd.underlying34 rfl (by rw [HZs.out]; exact size32) rfl) rfl ⟨zeroB, 2, by rw [HZE.out]; rfl, zeroB_ok, below_setRow HXz.out.grow (by rw [HOE.out]; exact Nat.le_refl _) _, fun h => absurd h HNB.out⟩
        | false =>
          have hat0 : IntKind.i64.wrap ((i : Int) * 4) = (i : Int) * 4 := by rw [IntKind.wrap_i64] <;> omega
          obtain ⟨at_, hat_⟩ : ∃ at_ : Nat, at_ = 16 + i * 4 := ⟨_, rfl⟩
          have hat1 : IntKind.i64.wrap (16 + (i : Int) * 4) = (at_ : Int) := by rw [IntKind.wrap_i64] <;> omega
          have hat2 : IntKind.i64.wrap ((at_ : Int) + 4) = (at_ : Int) + 4 := by rw [IntKind.wrap_i64] <;> omega
          have HA := Lib.hid (show at_ + 4 ≤ 256 ∧ 0 < at_ by omega)
          have hsl := fun w => slice_blk4 B at_ HA.out.1 HA.out.2 w
          go_upto_region 10 with fail
          first | rw [show (16 + (i : Int) * 4) = (at_ : Int) by omega] | skip
          clear hat_ hat0 hat1
          go_wp2_with fail
          refine (putNum_ok HXz.out.b HXz.out.len at_ _ t HA.out.1 HBT.out).mono ?_
          intro e w8 hp
          obtain ⟨⟨u, rfl⟩, hx8, ht8⟩ := hp
          have HK8 := Lib.hid (HXz.out.put hx8 ht8 HW2.out HOE.out)
          clear hx8 ht8 hat2 hsl
          go_wp2_with fail
          go_roundw
          case rel => exact ⟨i + 1, by omega, by go_num, HK8⟩
          case measure => simp [intOf]; omega
    · obtain rfl : i = n := by omega
      obtain ⟨Y, hY⟩ : ∃ Y, Y = (bc x).toArray := ⟨_, rfl⟩
      have HY := Lib.hid hY
      have HB4 := Lib.hid (show wr.heap[B]? = some (.cells Y 34) by rw [hY]; exact HX.out.b)
      have HYs := Lib.hid (show Y.size = 256 by rw [hY, List.size_toArray, bc_length, HX.out.len])
      have HY1 := Lib.hid (show Y.all (·.oneCell') = true by rw [hY]; exact all_oneCell_toArray (bc_one _))
      clear hY
      go_wp2_with (first | (refine wpList_load_row rfl _ _ rfl B rfl 34 Y (0, 0) _ HB4.out Tryd.underlying34 rfl (by rw [HYs.out]; exact size32) ?_) | (refine wpList_store_row rfl _ _ _ rfl O Y rfl rfl 34 Z HX.out.o (by rw [HYs.out]; exact size32) (by rw [HYs.out]; exact HZ.out) HY1.out ?_))
      refine bodyPost_ret (results_row_tmp rfl _ _ O 34 Y (0, 0) _ _ rfl (setRow_heap _ _ _ _ _ _ HX.out.o) Tryd.underlying34 rfl (by rw [HYs.out]; exact size32) rfl) rfl ⟨x, 0, by rw [HY.out]; rfl, HX.out.len, below_setRow HX.out.grow (by rw [HOE.out]; exact Nat.le_refl _) _, fun _ => rfl⟩
#print axioms wrn_ok

set_option maxRecDepth 100000 in
set_option maxHeartbeats 4000000 in
theorem desc_ok {w : World} {v : Value} {l : List Tg} (ht : See w 2 v (l.map tgc)) (hb : ∀ t ∈ l, t.b < 4294967296) (s : Nat) (h1 : 1 ≤ s) (h2 : s ≤ 2147483648) (hn : 1 ≤ l.length) (hn2 : l.length ≤ 30) :
    Calls Tryd.prog 46 #[.int .u32 (s : Int), v] w (WrEPost w l.length) := by
  have hz := zero32
  have HZ := Lib.hid zero_size
  obtain ⟨Z, hZ⟩ : ∃ Z, Z = (bc zeroB).toArray := ⟨_, rfl⟩
  rw [← hZ] at hz HZ
  have HC := Lib.hid (wrt_ok (ht.grow (Grow.alloc w (.cells Z 34))) hb s h1 h2 hn hn2)
  have HO0 := Lib.hid (show (w.alloc (.cells Z 34)).heap[w.heap.size]? = some (.cells Z 34) from heap_alloc_last _ _)
  have HG0 := Lib.hid (Grow.alloc w (.cells Z 34))
  obtain ⟨n, hnn⟩ : ∃ n, n = l.length := ⟨_, rfl⟩
  rw [← hnn] at HC ⊢
  clear ht hb hn hn2 hnn hZ
  go_enter Tryd.func46, Tryd.ntmps46
  go_wp2_with fail
  refine HC.out.mono ?_
  intro e w2 hp
  obtain ⟨X, er, rfl, hX, hg, he⟩ := hp
  have HO2 := Lib.hid ((hg.block _ (Array.getElem?_eq_some_iff.1 HO0.out).1).trans HO0.out)
  have HG2 := Lib.hid (Grow.trans HG0.out hg)
  have HE := Lib.hid he
  have HXl := Lib.hid hX
  obtain ⟨Y, hY⟩ : ∃ Y, Y = (bc X).toArray := ⟨_, rfl⟩
  have HY := Lib.hid hY
  have HYs := Lib.hid (show Y.size = 256 by rw [hY, List.size_toArray, bc_length, hX])
  have HY1 := Lib.hid (show Y.all (·.oneCell') = true by rw [hY]; exact all_oneCell_toArray (bc_one _))
  rw [← hY]
  clear hY hg he hX
  go_wp2_with (refine wpList_store_row rfl _ _ _ rfl w.heap.size Y rfl rfl 34 Z HO2.out (by rw [HYs.out]; exact size32) (by rw [HYs.out]; exact HZ.out) HY1.out ?_)
  refine bodyPost_ret (results_row_tmp rfl _ _ w.heap.size 34 Y (0, 0) _ _ rfl (setRow_heap _ _ _ _ _ _ HO2.out) Tryd.underlying34 rfl (by rw [HYs.out]; exact size32) rfl) rfl ⟨X, er, by rw [HY.out]; rfl, HXl.out, below_setRow HG2.out (Nat.le_refl _) _, HE.out⟩
#print axioms desc_ok

set_option maxRecDepth 100000 in
set_option maxHeartbeats 4000000 in
theorem revoke_ok {w : World} {v : Value} {l : List Nat} (ht : See w 1 v (l.map ncell)) (hb : ∀ t ∈ l, t < 4294967296) (s : Nat) (h1 : 1 ≤ s) (h2 : s ≤ 2147483648) (hn : 1 ≤ l.length) (hn2 : l.length ≤ 60) :
    Calls Tryd.prog 48 #[.int .u32 (s : Int), v] w (WrEPost w l.length) := by
  have hz := zero32
  have HZ := Lib.hid zero_size
  obtain ⟨Z, hZ⟩ : ∃ Z, Z = (bc zeroB).toArray := ⟨_, rfl⟩
  rw [← hZ] at hz HZ
  have HC := Lib.hid (wrn_ok (ht.grow (Grow.alloc w (.cells Z 34))) hb s h1 h2 hn hn2)
  have HO0 := Lib.hid (show (w.alloc (.cells Z 34)).heap[w.heap.size]? = some (.cells Z 34) from heap_alloc_last _ _)
  have HG0 := Lib.hid (Grow.alloc w (.cells Z 34))
  obtain ⟨n, hnn⟩ : ∃ n, n = l.length := ⟨_, rfl⟩
  rw [← hnn] at HC ⊢
  clear ht hb hn hn2 hnn hZ
  go_enter Tryd.func48, Tryd.ntmps48
  go_wp2_with fail
  refine HC.out.mono ?_
  intro e w2 hp
  obtain ⟨X, er, rfl, hX, hg, he⟩ := hp
  have HO2 := Lib.hid ((hg.block _ (Array.getElem?_eq_some_iff.1 HO0.out).1).trans HO0.out)
  have HG2 := Lib.hid (Grow.trans HG0.out hg)
  have HE := Lib.hid he
  have HXl := Lib.hid hX
  obtain ⟨Y, hY⟩ : ∃ Y, Y = (bc X).toArray := ⟨_, rfl⟩
  have HY := Lib.hid hY
  have HYs := Lib.hid (show Y.size = 256 by rw [hY, List.size_toArray, bc_length, hX])
  have HY1 := Lib.hid (show Y.all (·.oneCell') = true by rw [hY]; exact all_oneCell_toArray (bc_one _))
  rw [← hY]
  clear hY hg he hX
  go_wp2_with (refine wpList_store_row rfl _ _ _ rfl w.heap.size Y rfl rfl 34 Z HO2.out (by rw [HYs.out]; exact size32) (by rw [HYs.out]; exact HZ.out) HY1.out ?_)
  refine bodyPost_ret (results_row_tmp rfl _ _ w.heap.size 34 Y (0, 0) _ _ rfl (setRow_heap _ _ _ _ _ _ HO2.out) Tryd.underlying34 rfl (by rw [HYs.out]; exact size32) rfl) rfl ⟨X, er, by rw [HY.out]; rfl, HXl.out, below_setRow HG2.out (Nat.le_refl _) _, HE.out⟩
#print axioms revoke_ok
end Go.Proofs.YtieknecbheeekaaDoor
