/- The law DiskLoads: the walk. -/
import Derived.Test.YtkcbjhdklenlbaaD54
import Derived.Laws.Tables
set_option linter.unusedVariables false
set_option linter.unusedSimpArgs false
namespace Go.Proofs.Ytkcbjhdklenlbaa
open Go.RowKit

theorem wpList_build32 {ops : Array Oper} {rest : List Oper} {o : Oper} {a : Act} {w : World} {Q : Exit → Act → World → Prop} (hg : o.guard = none) (x : Operand) (ho : o.op = .build 32 #[(0, x)])
    (v : Value) (hv : a.eval x = v) (X : Array Value) (hX : Try.prog.built 32 [(0, v)] = some X) (h : wpList Try.prog ops Q rest (a.put o.dst (.agg X)) w) : wpList Try.prog ops Q (o :: rest) a w := by
  have hX' : Try.prog.built 32 ((#[(0, x)] : Array (Nat × Operand)).map fun (i, x) => (i, a.eval x)).toList = some X := by simpa [hv] using hX
  refine wpList_build hg _ _ ho ?_ ?_
  · rw [hX']; rfl
  · rw [hX']; exact h
/-- ahead of each round of the first loop -/
structure LInv (w : World) (fs : List Nat) (k : Nat) (t : Value) (wr : World) : Prop where
  row : Row wr 32 256 t (img fs k)
  lo : ∀ g, t.ownBlock = some g → w.heap.size ≤ g
  grow : Grow w wr
/-- ahead of each round of the last loop -/
structure TInv (w : World) (B R k : Nat) (S T : List Nat) (d : DS) (wr : World) : Prop where
  twin : Twin wr B R S T k d
  lo : ∀ j ∈ S ++ T, w.heap.size ≤ j
  grow : Grow w wr
theorem Twin.kept {w w' : World} {B R : Nat} {S T : List Nat} {k : Nat} {d : DS} (h : Twin w B R S T k d) (U : List Nat) (ht : Touch U w w') (hn : ∀ j ∈ S ++ T, j ∉ U) : Twin w' B R S T k d :=
  { h with disk := h.disk.kept ht (fun j hj => hn j (List.mem_append_left _ hj)), ref := h.ref.kept ht (fun j hj => hn j (List.mem_append_right _ hj)) }
theorem TInv.next {w : World} {B R k : Nat} {S T : List Nat} {d : DS} {wr : World} {e : Ending} {w' : World} (h : TInv w B R k S T d wr) (hd : Did B R S T (k + 1) wr e w') : e = .returned (.bool true) ∧ ∃ S' T' d', TInv w B R (k + 1) S' T' d' w' := by
  obtain ⟨he, S', T', d', h1, h2, h3⟩ := hd
  refine ⟨he, S', T', d', h1, fun j hj => ?_, Below.trans h.grow (h2.below h.grow.size h.lo)⟩
  rcases h3 j hj with h4 | h4
  · exact h.lo j h4
  · exact Nat.le_trans h.grow.size h4
set_option maxRecDepth 100000 in
set_option maxHeartbeats 4000000 in
theorem loads_walk {w : World} {vf v : Value} {fs : List Nat} (hf : Nums w vf fs) (hfl : fs.length ≤ 9223372036854775807) {l : List AQ} (hp : ActsInQ w v l) (hl : l.length ≤ 9223372036854775807) :
    Calls Try.prog 8 #[vf, v] w fun e w' => e = .returned (.bool true) ∧ Below w.heap.size w w' := by
  obtain ⟨af, cf, rfl, hcf⟩ := hf
  obtain ⟨ad, cap, rfl, hc⟩ := hp
  by_cases hbig : 3000 < fs.length ∨ 60 < l.length
  · generalize l.length = L at *
    generalize fs.length = F at *
    clear hc hcf
    have hcase : decide ((3000 : Int) < (F : Int)) = true ∨ (decide ((3000 : Int) < (F : Int)) = false ∧ decide ((60 : Int) < (L : Int)) = true) := by simp; omega
    clear hbig
    rcases hcase with d0 | ⟨d0, d1⟩
    all_goals
      go_enter Try.func8, Try.ntmps8
      go_wp2_with fail
      go_ret
      exact ⟨rfl, Below.refl _ _⟩
  · have HP := Lib.hid hc
    have HFS := Lib.hid hcf
    obtain ⟨F, hF⟩ : ∃ F, F = fs.length := ⟨_, rfl⟩
    obtain ⟨L, hL⟩ : ∃ L, L = l.length := ⟨_, rfl⟩
    have h3 : F ≤ 3000 := by omega
    have h6 : L ≤ 60 := by omega
    rw [← hF, ← hL]
    have HF := Lib.hid hF
    have HL := Lib.hid hL
    have d0 : decide ((3000 : Int) < (F : Int)) = false := by simp; omega
    have d1 : decide ((60 : Int) < (L : Int)) = false := by simp; omega
    have HI0 := Lib.hid (show LInv w fs 0 (.slice none 0 0) w from ⟨by rw [img_zero]; exact ⟨fun c hc => (by cases hc), World.ownsRow_nil _ _ _ _⟩, fun g hg => (by cases hg), Grow.refl _⟩)
    clear hF hL hl hfl hc hcf hbig
    go_enter Try.func8, Try.ntmps8
    go_wp2_with fail
    go_loopw [5, 6] (fun t5 t6 wr => ∃ k : Nat, k ≤ F ∧ t6 = .int .i64 (k : Int) ∧ (∃ a5 c5, t5 = .slice a5 k c5) ∧ Hid (LInv w fs k t5 wr)) (fun t5 t6 _ => F - (intOf t6).toNat)
    case atStart => exact ⟨0, by omega, rfl, ⟨none, 0, rfl⟩, HI0⟩
    case round =>
      obtain ⟨k, hk, rfl, ⟨a5, c5, rfl⟩, HI⟩ := hrel
      by_cases hlt : k < F
      · have hkl : k < fs.length := by rw [← HF.out]; exact hlt
        obtain ⟨f, hfk⟩ : ∃ f, fs[k]? = some f := ⟨fs[k], by simp [hkl]⟩
        obtain ⟨y, rfl, hyb, hcy, hf4⟩ := HFS.out k f hfk
        have hcy' := (HI.out.grow.cell (p := y.add k) (by rw [add_block]; exact hyb)).trans hcy
        have b0 : (0 : Int) ≤ (k : Int) := by omega
        have b1 : (k : Int) < (F : Int) := by omega
        have HFI := Lib.hid (fun w => fill_any f hf4 w)
        have HXL := Lib.hid (show (bc (fillB f)).length = 256 by rw [bc_length, fillB_length])
        have HXO := Lib.hid (bc_one (fillB f))
        have HIS := Lib.hid (img_succ hfk)
        have HIL := Lib.hid (img_length (Nat.le_of_lt hkl))
        clear hkl hfk hcy
        generalize bc (fillB f) = X at *
        go_wp2_with fail
        refine (HFI.out _).mono ?_
        intro e w5 hpost
        obtain ⟨he, hg5⟩ := hpost
        subst he
        have HR5 := Lib.hid ((HI.out.row.kept (Touch.of_below (S := []) hg5) (by simp)).kept (Touch.alloc [] w5 (.cells X.toArray 32)) (by simp))
        have HG5 := Lib.hid (Grow.trans (Grow.trans HI.out.grow hg5) (Grow.alloc w5 (.cells X.toArray 32)))
        have HNC := Lib.hid (show ∀ j u, X[j]? = some u → (w5.alloc (.cells X.toArray 32)).cell? ((⟨w5.heap.size, 0, none⟩ : Addr).add j) = some u from fun j u hj => by
          rw [Addr.add_mid, Nat.zero_add, cell_at (heap_alloc_last _ _)]
          simpa using hj)
        clear hg5 hcy'
        go_wp2_with (first | (with_reducible refine wpList_one_blk rfl _ rfl X HXL.out rfl ?_) | (at_builtin; refine wpList_append_blk rfl _ _ rfl (.slice a5 k c5) (img fs k) rfl HR5.out ⟨w5.heap.size, 0, none⟩ 1 X rfl HXL.out HNC.out HXO.out (by rw [HIL.out]; omega) ?_))
        intro v' w6 hr6 hown ht6
        have HI6 := Lib.hid (show LInv w fs (k + 1) v' w6 from ⟨by rw [HIS.out]; exact hr6, fun g hg => by
            rcases hown with h | h
            · exact HI.out.lo g (h ▸ hg)
            · rw [hg] at h; cases h; have := HG5.out.size; simpa using this, Below.trans HG5.out (ht6.below HG5.out.size (fun j hj => HI.out.lo j (by simpa using hj)))⟩)
        obtain ⟨a6, c6, hv6⟩ := hr6.len
        rw [List.length_append, HIL.out] at hv6
        have hv7 : v' = .slice a6 (k + 1) c6 := hv6
        clear hv6 hr6 hown ht6
        subst hv7
        go_wp2_with fail
        go_roundw
        case rel => exact ⟨k + 1, by omega, by go_num, ⟨a6, c6, rfl⟩, HI6⟩
        case measure => simp [intOf]; omega
      · obtain rfl : F = k := by omega
        by_cases hno : F = 0 ∨ 2048 < F
        · have HNo := Lib.hid hno
          have HGr := Lib.hid HI.out.grow
          clear HI hno
          go_wp2_with fail
          refine (load_no HNo.out (by omega)).mono ?_
          intro e w' hpost
          obtain ⟨he, hw⟩ := hpost
          subst he hw
          go_wp2_with fail
          refine (rload_no HNo.out (by omega)).mono ?_
          intro e w' hpost
          obtain ⟨he, hw⟩ := hpost
          subst he hw
          go_wp2_with fail
          go_ret
          exact ⟨rfl, HGr.out⟩
        · have h1 : 1 ≤ F := by omega
          have h2 : F ≤ 2048 := by omega
          have hrow : Row wr 32 256 (.slice a5 F c5) ((fs.map fillB).map bc) := by
            have := HI.out.row
            rw [HF.out, img_all, ← HF.out] at this
            exact this
          have HLN := Lib.hid (show (fs.map fillB).length = F by rw [List.length_map, HF.out])
          have hls := HLN.out
          generalize fs.map fillB = ls at *
          obtain ⟨g5, c5', hv, hg5l, _⟩ := hrow.open_ (by rw [List.length_map, hls]; omega)
          rw [List.length_map, hls] at hv
          cases hv
          have HR := Lib.hid hrow
          have HLO := Lib.hid (HI.out.lo g5 rfl)
          have HGr := Lib.hid HI.out.grow
          have HGL := Lib.hid hg5l
          have H1 := Lib.hid (show 1 ≤ ls.length by omega)
          have H2 := Lib.hid (show ls.length ≤ 2048 by omega)
          clear HI hno hrow hls hg5l
          go_wp2_with fail
          refine (load_ok HR.out H1.out H2.out).mono ?_
          intro e w1 hpost
          obtain ⟨B, S, he, hd, hg, hS⟩ := hpost
          subst he
          have HD1 := Lib.hid hd
          have HS := Lib.hid hS
          have HSl := Lib.hid hd.lt
          have HG1 := Lib.hid (Grow.trans HGr.out hg)
          have HZ1 := Lib.hid hg.size
          have HR1 := Lib.hid (HR.out.kept (Touch.of_below (S := []) hg) (by simp))
          clear hd hS hg HR
          go_wp2_with fail
          refine (rload_ok HR1.out H1.out H2.out).mono ?_
          intro e w2 hpost
          obtain ⟨R, T, he, hr, hg, hT⟩ := hpost
          subst he
          have HE2 := Lib.hid hr
          have HT := Lib.hid hT
          have HD2 := Lib.hid (HD1.out.kept (Touch.of_below (S := []) hg) (by simp))
          have HG2 := Lib.hid (Grow.trans HG1.out hg)
          have HR2 := Lib.hid (HR1.out.kept (Touch.of_below (S := []) hg) (by simp))
          have HAP := Lib.hid (show ∀ i ∈ S, i ∉ T from fun i hi hm => by have := HSl.out i hi; have := hT i hm; omega)
          have HSL := Lib.hid (show ∀ i ∈ S ++ T, wr.heap.size ≤ i from fun i hi => by
            rcases List.mem_append.1 hi with h | h
            · exact HS.out i h
            · have := hT i h; have := HZ1.out; omega)
          have HTW2 := Lib.hid ((Fair.load ls).twin HD2.out HE2.out HAP.out)
          clear hr hT hg HD1 HR1 HE2 HD2
          go_wp2_with fail
          have HX7 := Lib.hid (oneB_length 7)
          have HB7 := Lib.hid built7
          generalize oneB 7 = x7 at *
          have HS7 := Lib.hid (show (Try.prog.info? 32).map (·.size) = some (bc x7).toArray.size by rw [List.size_toArray, bc_length, HX7.out]; exact size32)
          go_loopw [11] (fun t11 wq => ∃ i : Nat, i ≤ F ∧ t11 = .int .i64 (i : Int) ∧ Hid (Touch [g5] w2 wq) ∧ ∃ la : List Blk, Hid (la.length = F) ∧ Hid (Row wq 32 256 (.slice (some ⟨g5, 0, none⟩) F c5) (la.map bc))) (fun t11 _ => F - (intOf t11).toNat)
          case atStart => exact ⟨0, by omega, rfl, Lib.hid (Touch.refl _ _), ls, HLN, HR2⟩
          case round =>
            obtain ⟨i, hi, rfl, HTT, la, HLA, HRA⟩ := hrel
            by_cases hlt : i < F
            · have hia : i < la.length := by rw [HLA.out]; exact hlt
              have b0 : (0 : Int) ≤ (i : Int) := by omega
              have b1 : (i : Int) < (F : Int) := by omega
              have HTH := Lib.hid (show wr.there g5 (i * 256) (bc x7).toArray.size by rw [List.size_toArray, bc_length, HX7.out]; exact HRA.out.there (by rw [List.length_map]; exact hia))
              have HRN := Lib.hid (HRA.out.storeB HX7.out hia)
              have HTN := Lib.hid (HTT.out.trans (touch_setCells (S := [g5]) (g := g5) (by simp) (bc x7) (i * 256) wr) (fun i hi => .inl hi))
              clear hia
              go_wp2_with (first | (refine wpList_build32 rfl _ rfl (.int .u8 7) rfl (bc x7).toArray HB7.out ?_) | (refine wpList_store_mid rfl 32 _ _ rfl g5 (i * 256) (bc x7).toArray rfl rfl HTH.out HS7.out (all_oneCell_toArray (bc_one _)) ?_))
              go_roundw
              case rel => exact ⟨i + 1, by omega, by go_num, HTN, _, Lib.hid (by rw [List.length_set]; exact HLA.out), HRN⟩
              case measure => simp [intOf]; omega
            · have HGq := Lib.hid (show Grow w wr from Below.trans HG2.out (HTT.out.below HG2.out.size (fun j hj => by rw [List.mem_singleton.1 hj]; exact HLO.out)))
              have HTWq := Lib.hid (HTW2.out.kept [g5] HTT.out (fun j hj hm => by have h1 := HSL.out j hj; rw [List.mem_singleton.1 hm] at h1; have := HGL.out; omega))
              have HLL := Lib.hid (show ∀ i ∈ S ++ T, w.heap.size ≤ i from fun i hi => Nat.le_trans HGr.out.size (HSL.out i hi))
              clear HTW2 HTT HRA HLA HR2 HG2
              have HX8 := Lib.hid (oneB_length 8)
              have HB8 := Lib.hid built8
              have HX9 := Lib.hid (oneB_length 9)
              have HB9 := Lib.hid built9
              generalize oneB 8 = x8 at *
              generalize oneB 9 = x9 at *
              have HS8 := Lib.hid (show (Try.prog.info? 32).map (·.size) = some (bc x8).toArray.size by rw [List.size_toArray, bc_length, HX8.out]; exact size32)
              have HS9 := Lib.hid (show (Try.prog.info? 32).map (·.size) = some (bc x9).toArray.size by rw [List.size_toArray, bc_length, HX9.out]; exact size32)
              have e0 : ((F : Int) == 0) = false := by simp; omega
              have c0 : (0 : Int) < (F : Int) := by omega
              go_wp2_with fail
              refine (image_ok HTWq.out.disk).mono ?_
              intro e w3 hpost
              obtain ⟨ga, ca, he, hra, hga, hg3⟩ := hpost
              subst he
              rw [show (loadD ls).last.length = F from HLN.out] at hra ⊢
              have HA3 := Lib.hid hra
              have HGA := Lib.hid hga
              have HTW3 := Lib.hid (HTWq.out.kept0 (Touch.of_below (S := []) hg3))
              have HG3 := Lib.hid (Grow.trans HGq.out hg3)
              have HLA3 := Lib.hid (show ∀ j ∈ S ++ T, j ≠ ga from fun j hj e => by
                have : j < wr.heap.size := by
                  rcases List.mem_append.1 hj with h | h
                  · exact HTWq.out.disk.lt j h
                  · exact HTWq.out.ref.lt j h
                omega)
              have HGAl := Lib.hid (show ga < w3.heap.size from hra.lt rfl)
              clear hra hga hg3
              go_wp2_with fail
              refine (safe_ok HTW3.out.disk).mono ?_
              intro e w4 hpost
              obtain ⟨gb, cb, he, hrb, hgb, hg4⟩ := hpost
              subst he
              rw [show (loadD ls).safe.length = F from HLN.out] at hrb ⊢
              have HB4 := Lib.hid hrb
              have HA4 := Lib.hid (HA3.out.kept (Touch.of_below (S := []) hg4) (by simp))
              have HTW4 := Lib.hid (HTW3.out.kept0 (Touch.of_below (S := []) hg4))
              have HG4 := Lib.hid (Grow.trans HG3.out hg4)
              have HLB4 := Lib.hid (show ∀ j ∈ S ++ T, j ≠ gb from fun j hj e => by
                have : j < w3.heap.size := by
                  rcases List.mem_append.1 hj with h | h
                  · exact HTW3.out.disk.lt j h
                  · exact HTW3.out.ref.lt j h
                omega)
              have HAB := Lib.hid (show gb ≠ ga by have := HGAl.out; omega)
              have HLWA := Lib.hid (show w.heap.size ≤ ga by have := HGA.out; have := HGq.out.size; omega)
              have HLWB := Lib.hid (show w.heap.size ≤ gb by have := hgb; have := HG3.out.size; omega)
              have HTHA := Lib.hid (show w4.there ga 0 (bc x8).toArray.size by rw [List.size_toArray, bc_length, HX8.out]; have := HA4.out.there (i := 0) (by rw [List.length_map, show (loadD ls).last.length = F from HLN.out]; omega); simpa using this)
              have htA : Touch [ga] w4 (w4.setCells ga 0 (bc x8)) := touch_setCells (by simp) _ _ _
              have HTW5 := Lib.hid (HTW4.out.kept [ga] htA (fun j hj hm => HLA3.out j hj (List.mem_singleton.1 hm)))
              have HB5 := Lib.hid (HB4.out.kept htA (fun g e => by cases e; simpa using HAB.out))
              have HG5 := Lib.hid (show Grow w (w4.setCells ga 0 (bc x8)) from Below.trans HG4.out (htA.below HG4.out.size (fun j hj => by rw [List.mem_singleton.1 hj]; exact HLWA.out)))
              clear hrb hgb hg4 htA
              go_upto_region 22 with (first | (refine wpList_build32 rfl _ rfl (.int .u8 8) rfl (bc x8).toArray HB8.out ?_) | (refine wpList_store_mid rfl 32 _ _ rfl ga 0 (bc x8).toArray rfl rfl HTHA.out HS8.out (all_oneCell_toArray (bc_one _)) ?_))
              generalize w4.setCells ga 0 (bc x8) = w5 at *
              have HTHB := Lib.hid (show w5.there gb 0 (bc x9).toArray.size by rw [List.size_toArray, bc_length, HX9.out]; have := HB5.out.there (i := 0) (by rw [List.length_map, show (loadD ls).safe.length = F from HLN.out]; omega); simpa using this)
              have htB : Touch [gb] w5 (w5.setCells gb 0 (bc x9)) := touch_setCells (by simp) _ _ _
              have HTW6 := Lib.hid (HTW5.out.kept [gb] htB (fun j hj hm => HLB4.out j hj (List.mem_singleton.1 hm)))
              have HG6 := Lib.hid (show Grow w (w5.setCells gb 0 (bc x9)) from Below.trans HG5.out (htB.below HG5.out.size (fun j hj => by rw [List.mem_singleton.1 hj]; exact HLWB.out)))
              clear htB
              go_upto_region 23 with (first | (refine wpList_build32 rfl _ rfl (.int .u8 9) rfl (bc x9).toArray HB9.out ?_) | (refine wpList_store_mid rfl 32 _ _ rfl gb 0 (bc x9).toArray rfl rfl HTHB.out HS9.out (all_oneCell_toArray (bc_one _)) ?_))
              generalize w5.setCells gb 0 (bc x9) = w6 at *
              go_wp2_with fail
              refine (alike_ok HTW6.out (by omega)).mono ?_
              intro e w7 hpost
              obtain ⟨he, hg7⟩ := hpost
              subst he
              have HI7 := Lib.hid (show TInv w B R 0 S T (loadD ls) w7 from ⟨HTW6.out.kept0 (Touch.of_below (S := []) hg7), HLL.out, Grow.trans HG6.out hg7⟩)
              clear hg7 HTW6 HG6 HTW5 HG5 HB5 HTHB HTHA HTW4 HG4 HA4 HB4 HTW3 HG3 HA3 HTWq HGq
              go_wp2_with fail
              go_loopw [14] (fun t14 wq => ∃ (i : Nat) (S' T' : List Nat) (d : DS), i ≤ L ∧ t14 = .int .i64 (i : Int) ∧ Hid (TInv w B R i S' T' d wq)) (fun t14 _ => L - (intOf t14).toNat)
              case atStart => exact ⟨0, S, T, _, by omega, rfl, HI7⟩
              case round =>
                obtain ⟨i, S', T', d, hi, rfl, HI⟩ := hrel
                by_cases hlt : i < L
                · have hil : i < l.length := by rw [← HL.out]; exact hlt
                  obtain ⟨p, hpi⟩ : ∃ p, l[i]? = some p := ⟨l[i], by simp [hil]⟩
                  obtain ⟨y, rfl, hyb, ak, ck, hc0, hc1, hc2, hc3, hfl, hnil, hkl, hq, hpa, hpf⟩ := HP.out i p hpi
                  obtain ⟨q, b, f, pks⟩ := p
                  dsimp only at hc0 hc1 hc2 hc3 hfl hnil hkl hq hpa hpf
                  have hI := HI.out
                  have hc0' := (hI.grow.cell (p := y.add (i * 4)) (by rw [add_block]; exact hyb)).trans hc0
                  have hc1' : wr.cell? { block := (y.add (i * 4)).block, off := (y.add (i * 4)).off + 1 } = some (.int .i64 b) := (hI.grow.cell (p := (y.add (i * 4)).add 1) (by rw [add_block, add_block]; exact hyb)).trans hc1
                  have hc2' : wr.cell? { block := (y.add (i * 4)).block, off := (y.add (i * 4)).off + 2 } = some (.int .u32 (f : Int)) := (hI.grow.cell (p := (y.add (i * 4)).add 2) (by rw [add_block, add_block]; exact hyb)).trans hc2
                  have hc3' : wr.cell? { block := (y.add (i * 4)).block, off := (y.add (i * 4)).off + 3 } = some (.slice ak pks.length ck) := (hI.grow.cell (p := (y.add (i * 4)).add 3) (by rw [add_block, add_block]; exact hyb)).trans hc3
                  have b0 : (0 : Int) ≤ (i : Int) := by omega
                  have b1 : (i : Int) < (L : Int) := by omega
                  have HC := Lib.hid (does_any hI.twin (by omega) q b hpa.2 f hpf ak pks.length ck pks rfl (hfl.bools _ hI.grow hI.lo) hnil hkl hq)
                  clear hI hc0 hc1 hc2 hc3 hfl hpi hil hnil hkl hq hpa hpf hyb
                  generalize pks.length = pn at *
                  go_wp2_with fail
                  refine HC.out.mono ?_
                  intro e w8 hpost
                  obtain ⟨he, S2, T2, d2, hI2⟩ := HI.out.next hpost
                  subst he
                  have HI2 := Lib.hid hI2
                  clear hpost hI2 hc0' hc1' hc2' hc3'
                  go_wp2_with fail
                  go_roundw
                  case rel => exact ⟨i + 1, S2, T2, d2, by omega, by go_num, HI2⟩
                  case measure => simp [intOf]; omega
                · obtain rfl : L = i := by omega
                  go_wp2_with fail
                  refine (alike_ok HI.out.twin (by omega)).mono ?_
                  intro e w9 hpost
                  obtain ⟨he, hg9⟩ := hpost
                  subst he
                  have HF := Lib.hid (Grow.trans HI.out.grow hg9)
                  clear hg9
                  go_wp2_with fail
                  go_ret
                  exact ⟨rfl, HF.out⟩
#print axioms loads_walk
end Go.Proofs.Ytkcbjhdklenlbaa
