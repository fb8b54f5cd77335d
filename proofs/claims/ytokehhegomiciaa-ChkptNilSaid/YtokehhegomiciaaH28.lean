/- The law ChkptNil: the walk. -/
import Derived.Test.YtokehhegomiciaaH27
set_option linter.unusedVariables false
set_option linter.unusedSimpArgs false
namespace Go.Proofs.Ytokehhegomiciaa
open Go.RowKit Go.Maps

def LZ : Array Value := #[.bool false, .int .i64 0, .int .i64 0, .int .i64 0, .int .i64 0, .bool false, .int .u32 0, .slice none 0 0]
theorem builtLs : Try.prog.built 71 [] = some LZ := by kernel_rfl
theorem built_noneR : Try.prog.built 74 [] = some (scell zeroS).toArray := by kernel_rfl
theorem buildSlice_ptrs (p q : Option Addr) (w : World) : (Instr.buildSlice 72 2 #[(0, .pointer p), (1, .pointer q)]).run Try.prog w = .ok (.slice (some ⟨w.heap.size, 0, none⟩) 2 2) (w.alloc (.cells #[.pointer p, .pointer q] 27)) := by kernel_rfl
theorem wpList_ptrs2 {ops : Array Oper} {rest : List Oper} {o : Oper} {a : Act} {w : World} {Q : Exit → Act → World → Prop} (hgd : o.guard = none) (x y : Operand) (ho : o.op = .buildSlice 72 2 #[(0, x), (1, y)]) (p q : Option Addr) (hx : a.eval x = .pointer p) (hy : a.eval y = .pointer q)
    (hK : wpList Try.prog ops Q rest (a.put o.dst (.slice (some ⟨w.heap.size, 0, none⟩) 2 2)) (w.alloc (.cells #[.pointer p, .pointer q] 27))) : wpList Try.prog ops Q (o :: rest) a w :=
  wpList_buildSlice hgd _ _ _ ho (by simp only [List.map_toArray, List.map_cons, List.map_nil, hx, hy]; exact buildSlice_ptrs p q w) hK
set_option maxRecDepth 100000 in
set_option maxHeartbeats 8000000 in
theorem nil_walk {W : World} {x : AV} (hx : AVIs W x) (hL : x.cs.length ≤ 9223372036854775807 ∧ x.rs.length ≤ 9223372036854775807) (b : Int) (ps nx : Nat) (pst : Int) :
    Calls Try.prog 7 #[.agg (acell x).toArray, .int .i64 b, .agg #[.int .u32 (ps : Int), .int .i64 pst], .int .u32 (nx : Int)] W fun e w' => e = .returned (.bool true) ∧ Grow W w' := by
  obtain ⟨ac, cc, hvc⟩ := hx.cs.len
  obtain ⟨ar, cr, hvr⟩ := hx.rs.len
  have HX := Lib.hid hx
  have HSEE := Lib.hid (show ∀ w q, Grow W w → w.heap[q]? = some (.cells (acell x).toArray 43) → ASee w (.slice (some ⟨q, 0, none⟩) 1 1) [x] from fun w q hg hq => ⟨⟨some ⟨q, 0, none⟩, 1, rfl, fun k c hk => by
    cases k with
    | succ k => simp at hk
    | zero =>
      simp only [List.map_cons, List.map_nil, List.getElem?_cons_zero, Option.some.injEq] at hk
      subst hk
      exact ⟨q, 0, rfl, (Array.getElem?_eq_some_iff.1 hq).1, fun j v hj => by rw [Nat.zero_mul, Nat.add_zero, Nat.zero_add, cell_at hq, List.getElem?_toArray]; exact hj⟩⟩, fun y hy => by rw [List.mem_singleton.1 hy]; exact hx.grow hg⟩)
  have HGR := Lib.hid (show ∀ w q, Grow W w → w.heap[q]? = some (.cells (acell x).toArray 43) → Calls Try.prog 8 #[.slice (some ⟨q, 0, none⟩) 1 1] w fun e w' => ∃ b, e = .returned (.bool b) ∧ Grow w w' from fun w q hg hq => (great_ok (HSEE.out w q hg hq) (by simp) (by simpa using hL)).mono fun e w' ⟨b, h1, h2, _⟩ => ⟨b, h1, h2⟩)
  have HSA := Lib.hid (show (Try.prog.info? 43).map (·.size) = some (acell x).toArray.size from size43)
  have HBS := Lib.hid (buildSlice_act x)
  have hac : acell x = [.bool x.did, .int .u32 (x.seq : Int), .slice ac x.cs.length cc, .slice ar x.rs.length cr, .int .i64 x.start, .int .i64 x.count] := by unfold acell; rw [hvc, hvr]
  have HAC := Lib.hid hac
  have hz := zero32
  have hsz := zero_size
  have hbt := builtB
  have hzo : (bc zeroB).toArray.all (·.oneCell') = true := all_oneCell_toArray (bc_one _)
  have hnz : ∀ w, (binOp .neq 33 (.agg (bc zeroB).toArray) (.agg (bc zeroB).toArray)).run Try.prog w = .ok (.bool false) w := fun w => by rw [neqBlk zeroB zeroB zeroB_ok zeroB_ok]; simp
  have hgn : ∀ (v : Value) (w : World), (∀ w', Grow w w' → Calls Try.prog 30 #[v] w' fun e w1 => e = .returned (.bool false) ∧ w' = w1) → Calls Try.prog 22 #[v, .int .i64 b] w fun e w' => e = .returned (.tuple #[.agg (bc zeroB).toArray, .bool false]) ∧ Grow w w' := fun v w h => get_not h
  generalize hZ : (bc zeroB).toArray = Z at *
  have HGB := Lib.hid (show ∀ x y w, (eqGuard .neq 33 x y (.agg Z) (.agg Z)).run Try.prog w = .ok () w from fun x y w => gB .neq x y Z Z w)
  have HNZ := Lib.hid hnz
  have HGN := Lib.hid hgn
  have HSZ := Lib.hid (show (Try.prog.info? 33).map (·.size) = some Z.size by rw [hsz]; exact size32)
  have HB := Lib.hid hbt
  have HO := Lib.hid hzo
  obtain ⟨SZ, hSZ⟩ : ∃ SZ, SZ = (scell zeroS).toArray := ⟨_, rfl⟩
  have HNXT := Lib.hid (show ∀ (v : Value) (w : World), (∀ w', Grow w w' → Calls Try.prog 30 #[v] w' fun e w1 => e = .returned (.bool false) ∧ w' = w1) → Calls Try.prog 19 #[v, .agg #[.int .u32 (ps : Int), .int .i64 pst], .int .u32 (nx : Int)] w fun e w' => e = .returned (.agg SZ) ∧ Grow w w' from fun v w h => by rw [hSZ]; exact next_not h)
  have HSTP := Lib.hid (show ∀ w, Calls Try.prog 26 #[.agg SZ, .agg SZ] w fun e w' => e = .returned (.bool true) ∧ Grow w w' from fun w => by rw [hSZ]; exact step_same zeroS zeroB_ok w)
  have HBR := Lib.hid (show Try.prog.built 74 [] = some SZ by rw [hSZ]; exact built_noneR)
  clear hx hL hvc hvr hsz hbt hzo hZ hnz hgn hSZ HSEE
  generalize acell x = A at *
  have HA0 := Lib.hid (heap_one W (.cells A.toArray 43) (.cells #[.int .u32 (ps : Int), .int .i64 pst] 53))
  have HH0 := Lib.hid (heap_two W (.cells A.toArray 43) (.cells #[.int .u32 (ps : Int), .int .i64 pst] 53))
  have HG0 := Lib.hid (show Grow W ((W.alloc (.cells A.toArray 43)).alloc (.cells #[.int .u32 (ps : Int), .int .i64 pst] 53)) from (Grow.alloc _ _).trans (Grow.alloc _ _))
  generalize hW0 : (W.alloc (.cells A.toArray 43)).alloc (.cells #[.int .u32 (ps : Int), .int .i64 pst] 53) = w0 at *
  have HW0 := Lib.hid hW0
  obtain ⟨AB, hAB⟩ : ∃ AB, AB = W.heap.size := ⟨_, rfl⟩
  obtain ⟨HBk, hHB⟩ : ∃ HBk, HBk = W.heap.size + 1 := ⟨_, rfl⟩
  rw [← hAB] at HA0
  rw [← hHB] at HH0
  have HABe := Lib.hid hAB
  have HHBe := Lib.hid hHB
  clear hW0 hAB hHB hac
  go_enter Try.func7, Try.ntmps7
  go_upto_region 1 with fail
  rw [HW0.out, ← HHBe.out, ← HABe.out]
  go_wp2_with (first | (refine wpList_load_row rfl 43 _ rfl AB rfl 43 A.toArray (0, 0) _ HA0.out Try.underlying43 rfl HSA.out ?_) | (refine wpList_buildSlice rfl 24 1 _ rfl (by simp only [List.map_toArray, List.map_cons, List.map_nil]; exact HBS.out _) ?_))
  refine (HGR.out _ _ (HG0.out.trans (Grow.alloc _ _)) (heap_alloc_last _ _)).mono ?_
  intro e w1 hp
  obtain ⟨gb, rfl, hg1⟩ := hp
  have HG01 := Lib.hid (show Grow w0 w1 from (Grow.alloc _ _).trans hg1)
  clear hg1
  cases gb with
  | true =>
    go_wp2_with fail
    go_ret
    exact ⟨rfl, HG0.out.trans HG01.out⟩
  | false =>
    have HL1 := Lib.hid (heap_one w1 (.cells #[.bool false, .int .i64 0, .int .i64 0, .int .i64 0, .int .i64 0, .bool false, .int .u32 0, .slice none 0 0] 71) (.cells #[.pointer none, .pointer (some ⟨w1.heap.size, 0, none⟩)] 27))
    have HP1 := Lib.hid (heap_two w1 (.cells #[.bool false, .int .i64 0, .int .i64 0, .int .i64 0, .int .i64 0, .bool false, .int .u32 0, .slice none 0 0] 71) (.cells #[.pointer none, .pointer (some ⟨w1.heap.size, 0, none⟩)] 27))
    have HG12 := Lib.hid (show Grow w1 ((w1.alloc (.cells #[.bool false, .int .i64 0, .int .i64 0, .int .i64 0, .int .i64 0, .bool false, .int .u32 0, .slice none 0 0] 71)).alloc (.cells #[.pointer none, .pointer (some ⟨w1.heap.size, 0, none⟩)] 27)) from (Grow.alloc _ _).trans (Grow.alloc _ _))
    go_upto_region 5 with (first | ((refine wpList_build rfl 71 _ rfl (by rw [show (((#[] : Array (Nat × Operand)).map fun (i, x) => (i, Act.eval _ x)).toList) = [] from rfl, builtLs]; rfl) ?_); rw [show (((#[] : Array (Nat × Operand)).map fun (i, x) => (i, Act.eval _ x)).toList) = [] from rfl, builtLs, Option.getD_some]) | (refine wpList_ptrs2 rfl _ _ rfl none (some ⟨w1.heap.size, 0, none⟩) rfl rfl ?_))
    generalize (w1.alloc (.cells #[.bool false, .int .i64 0, .int .i64 0, .int .i64 0, .int .i64 0, .bool false, .int .u32 0, .slice none 0 0] 71)).alloc (.cells #[.pointer none, .pointer (some ⟨w1.heap.size, 0, none⟩)] 27) = w2 at *
    obtain ⟨LB, hLB⟩ : ∃ LB, LB = w1.heap.size := ⟨_, rfl⟩
    obtain ⟨GL, hGL⟩ : ∃ GL, GL = w1.heap.size + 1 := ⟨_, rfl⟩
    rw [← hGL] at HP1 ⊢
    rw [← hLB] at HL1 HP1
    have HPP := Lib.hid (show ∀ i, i < 2 → ∃ p, w2.cell? ⟨GL, 0 + i, none⟩ = some (.pointer p) ∧ ∀ w, Grow w2 w → Calls Try.prog 30 #[.pointer p] w fun e w1 => e = .returned (.bool false) ∧ w = w1 from fun i hi => by
      rw [Nat.zero_add]
      cases i with
      | zero => exact ⟨none, cell_at HP1.out 0, fun w _ => is_none w⟩
      | succ i =>
        obtain rfl : i = 0 := by omega
        refine ⟨some ⟨LB, 0, none⟩, cell_at HP1.out 1, fun w hg => is_made ?_⟩
        exact (Below.cell hg (p := ⟨LB, 0, none⟩) (Array.getElem?_eq_some_iff.1 HL1.out).1).trans (cell_at HL1.out 0))
    have HGLt := Lib.hid (Array.getElem?_eq_some_iff.1 HP1.out).1
    have HG02 := Lib.hid (HG01.out.trans HG12.out)
    clear hLB hGL HL1 HP1 HG01 HG12
    obtain ⟨oL, hoL⟩ : ∃ oL : Nat, oL = 0 := ⟨_, rfl⟩
    rw [← hoL] at HPP
    rw [show (⟨GL, 0, none⟩ : Addr) = ⟨GL, oL, none⟩ by rw [hoL]]
    clear hoL
    have HA2 := Lib.hid ((HG02.out.block AB (Array.getElem?_eq_some_iff.1 HA0.out).1).trans HA0.out)
    have HH2 := Lib.hid ((HG02.out.block HBk (Array.getElem?_eq_some_iff.1 HH0.out).1).trans HH0.out)
    have HGW2 := Lib.hid (HG0.out.trans HG02.out)
    clear HA0 HH0 HG0 HG02 HW0 HABe HHBe HGR HBS HSA
    go_wp2_with fail
    go_loopw [11] (fun t11 wr => ∃ i : Nat, i ≤ 2 ∧ t11 = .int .i64 (i : Int) ∧ Hid (Grow w2 wr)) (fun t11 _ => 2 - (intOf t11).toNat)
    case atStart => exact ⟨0, by omega, by go_num, Lib.hid (Grow.refl _)⟩
    case round =>
      obtain ⟨i, hi, rfl, HGK⟩ := hrel
      by_cases hi2 : i < 2
      · obtain ⟨p, hpc, hpi⟩ := HPP.out i hi2
        have HPC := Lib.hid hpc
        have HPI := Lib.hid hpi
        have hq := (Below.cell HGK.out (p := ⟨GL, oL + i, none⟩) HGLt.out).trans hpc
        have b0 : (0 : Int) ≤ (i : Int) := by omega
        have b1 : (i : Int) < 2 := by omega
        clear hpc hpi
        go_wp2_with fail
        refine (HGN.out _ _ (fun w' hg => HPI.out w' (HGK.out.trans hg))).mono ?_
        intro e w4 hp
        obtain ⟨rfl, hg4⟩ := hp
        have HG4 := Lib.hid (HGK.out.trans hg4)
        have HXB := Lib.hid (show ((w4.alloc (.cells Z 33)).setRow w4.heap.size Z).heap[w4.heap.size]? = some (.cells Z 33) from setRow_heap _ _ _ _ _ _ (heap_alloc_last _ _))
        have HG5 := Lib.hid (show Grow w4 ((w4.alloc (.cells Z 33)).setRow w4.heap.size Z) from below_setRow (Grow.alloc _ _) (Nat.le_refl _) _)
        clear hg4 hq
        go_upto_region 9 with (refine wpList_store_row rfl 33 _ _ rfl w4.heap.size Z rfl rfl 33 Z (heap_alloc_last _ _) HSZ.out rfl HO.out ?_)
        generalize (w4.alloc (.cells Z 33)).setRow w4.heap.size Z = w5 at *
        obtain ⟨XB, hXB⟩ : ∃ XB, XB = w4.heap.size := ⟨_, rfl⟩
        rw [← hXB] at HXB ⊢
        have HG25 := Lib.hid (HG4.out.trans HG5.out)
        have HA5 := Lib.hid ((HG25.out.block AB (Array.getElem?_eq_some_iff.1 HA2.out).1).trans HA2.out)
        have HH5 := Lib.hid ((HG25.out.block HBk (Array.getElem?_eq_some_iff.1 HH2.out).1).trans HH2.out)
        have HAL := Lib.hid (Array.getElem?_eq_some_iff.1 HA5.out).1
        have HHL := Lib.hid (Array.getElem?_eq_some_iff.1 HH5.out).1
        have HI5 := Lib.hid (show ∀ w, Grow w5 w → ∀ w', Grow w w' → Calls Try.prog 30 #[.pointer p] w' fun e w1 => e = .returned (.bool false) ∧ w' = w1 from fun w h1 w' h2 => HPI.out w' (HG25.out.trans (h1.trans h2)))
        have c1 : w5.cell? ⟨AB, 1, none⟩ = some (.int .u32 (x.seq : Int)) := by rw [cell_at HA5.out, HAC.out]; rfl
        have c2 : w5.cell? ⟨AB, 2, none⟩ = some (.slice ac x.cs.length cc) := by rw [cell_at HA5.out, HAC.out]; rfl
        have c3 : w5.cell? ⟨AB, 3, none⟩ = some (.slice ar x.rs.length cr) := by rw [cell_at HA5.out, HAC.out]; rfl
        have c4 : w5.cell? ⟨AB, 4, none⟩ = some (.int .i64 x.start) := by rw [cell_at HA5.out, HAC.out]; rfl
        have c5 : w5.cell? ⟨AB, 5, none⟩ = some (.int .i64 x.count) := by rw [cell_at HA5.out, HAC.out]; rfl
        have d0 : w5.cell? ⟨HBk, 0, none⟩ = some (.int .u32 (ps : Int)) := cell_at HH5.out 0
        have d1 : w5.cell? ⟨HBk, 1, none⟩ = some (.int .i64 pst) := cell_at HH5.out 1
        have cp : w5.cell? ⟨GL, oL + i, none⟩ = some (.pointer p) := (Below.cell HG25.out (p := ⟨GL, oL + i, none⟩) HGLt.out).trans HPC.out
        have HGL5 := Lib.hid (Nat.lt_of_lt_of_le HGLt.out HG25.out.size)
        refine nil_reg9 AB HBk GL oL i XB nx x.seq x.cs.length cc x.rs.length cr ps ac ar p b x.start x.count pst Z SZ w5 (Lib.hid hi2) (Lib.hid ⟨HGL5.out, cp⟩) (Lib.hid ⟨HAL.out, c1⟩) (Lib.hid ⟨HAL.out, c2⟩) (Lib.hid ⟨HAL.out, c3⟩) (Lib.hid ⟨HAL.out, c4⟩) (Lib.hid ⟨HAL.out, c5⟩) (Lib.hid ⟨HHL.out, d0⟩) (Lib.hid ⟨HHL.out, d1⟩) HXB HSZ HB HBR HNZ HGB (Lib.hid fun w hg => add_not rfl rfl rfl (HI5.out w hg)) (Lib.hid fun w hg => did_not (HI5.out w hg)) (Lib.hid fun w hg => (in_not (HI5.out w hg w (Grow.refl _))).mono fun e w' ⟨h1, h2⟩ => ⟨h1, h2 ▸ Grow.refl _⟩) (Lib.hid fun w hg => (len_not (HI5.out w hg w (Grow.refl _))).mono fun e w' ⟨h1, h2⟩ => ⟨h1, h2 ▸ Grow.refl _⟩) (Lib.hid fun w hg => (left_not (HI5.out w hg w (Grow.refl _))).mono fun e w' ⟨h1, h2⟩ => ⟨h1, h2 ▸ Grow.refl _⟩) (Lib.hid fun w hg => HNXT.out _ w (HI5.out w hg)) (Lib.hid fun w _ => HSTP.out w) _ _ _ _ _ _ _ _ _ _ _ _ _ _ _ _ _ _ _ _ _ _ _ _ _ _ _ _ _ _ _ _ _ _ _ _ _ _ _ _ _ _ _ _ _ _ _ _ _ _ _ _ _ _ _ _ _ _ _ _ _ _ _ _ _ _ _ _ _ _ _ _ _ _ _ _ _ _ _ _ _ _ _ _ _ _ _ _ _ _ _ _ _ _ _ _ _ (Lib.hid ?hnilreg91)
        intro u36 u37 u38 u39 u40 u41 u42 u43 u44 u45 u46 u47 u48 u49 u50 u51 u52 u53 u54 u55 u56 u57 u58 u59 u60 u61 u62 u63 u64 u65 u66 u67 u68 u69 u70 u71 u72 u73 u74 u75 u76 u77 u78 u79 u80 u81 u82 u83 u84 u85 u86 u87 u88 u89 u90 u91 u92 u93 u94 u95 u96 u97 u98 u99 u100 u101 wz hRwz
        have HGZ := Lib.hid (HG25.out.trans hRwz)
        clear c1 c2 c3 c4 c5 d0 d1 cp hRwz
        go_wp2_with fail
        go_roundw
        case rel => exact ⟨i + 1, by omega, by go_num, HGZ⟩
        case measure => simp [intOf]; omega
      · obtain rfl : i = 2 := by omega
        go_wp2_with fail
        refine (awake_ok _).mono ?_
        intro e w9 hp
        obtain ⟨rfl, hg9⟩ := hp
        have HG9 := Lib.hid (HGW2.out.trans (HGK.out.trans hg9))
        clear hg9
        go_wp2_with fail
        go_ret
        exact ⟨rfl, HG9.out⟩
#print axioms nil_walk
end Go.Proofs.Ytokehhegomiciaa
