/- Order, Forget. -/
import Derived.Test.YtnogajnoghjmhaaT8
set_option linter.unusedVariables false
set_option linter.unusedSimpArgs false
namespace Go.Proofs.Ytnogajnoghjmhaa
open Go.RowKit Go.Maps

set_option maxRecDepth 100000 in
set_option maxHeartbeats 2000000 in
theorem order_ok {w : World} {B : Nat} {a : PA} {tb : Nat} {o : PA} {N seq : Nat} {cr rv : Int} {s q : PS} {did : List (Int × Unit)} (h : TO w B a tb o N seq cr rv s q did) {b : Int} (hb : IntOk b) (h0 : 0 ≤ b) (hN : N ≤ 100000) : Calls Try.prog 17 #[.pointer (some ⟨B, 0, none⟩), .int .i64 b] w fun e w' => e = .returned (.int .i64 0) ∧ TO w' B a tb o (N + 1) seq cr rv ⟨s.ch, insA s.od b (), s.fr, s.rv⟩ q did ∧ Touch (B :: tb :: a.ids) w w' := by
  have HD := Lib.hid h.nd
  have HH := Lib.hid h
  have HA := Lib.hid (h.ask b)
  have hneg : ¬ b < 0 := by omega
  rw [if_neg hneg] at HA
  clear h
  go_enter Try.func17, Try.ntmps17
  go_wp2_with fail
  refine HA.out.mono ?_
  rintro e w' ⟨rfl, rfl⟩
  have c1 : w.cell? ⟨B, 1, none⟩ = some (.map (some a.o)) := cell_at HH.out.obj 1
  go_wp2_with (first | (at_mapUpdate; refine wpList_mapStore rfl _ _ _ 61 rfl 73 Try.underlying61 a.o N s.od rfl HH.out.p.od hN b hb rfl () trivial rfl ?_; intro w1 hmw1 htw1))
  have HM := Lib.hid hmw1
  have HT := Lib.hid htw1
  clear hmw1 htw1 c1
  go_wp2_with fail
  go_ret
  have t1 := HT.out
  refine ⟨rfl, ⟨(t1.block B (Array.getElem?_eq_some_iff.1 HH.out.obj).1 (nd_ne HD.out 0 2 rfl rfl)).trans HH.out.obj, ⟨(HH.out.p.ch.kept t1 (nd_ne HD.out 1 2 rfl rfl)).mono (by omega), HM.out, (HH.out.p.fr.kept t1 (nd_ne HD.out 3 2 rfl rfl)).mono (by omega), (HH.out.p.rv.kept t1 (nd_ne HD.out 4 2 rfl rfl) (nd_ne HD.out 5 2 rfl rfl)).mono (by omega)⟩, (HH.out.t.kept t1 (nd_ne HD.out 6 2 rfl rfl)).mono (by omega), (HH.out.q.kept t1 (nd_o HD.out 2 rfl)).mono (by omega), HD.out⟩, t1.into (by simp [PA.ids])⟩
set_option maxRecDepth 100000 in
set_option maxHeartbeats 2000000 in
theorem forget_full {w : World} {B : Nat} {a : PA} {tb : Nat} {o : PA} {N seq : Nat} {cr rv : Int} {s q : PS} {did : List (Int × Unit)} (h : TO w B a tb o N seq cr rv s q did) {b : Int} (hb : IntOk b) (h0 : 0 ≤ b) (hr : rv = 0) (r : Bool) : Calls Try.prog 18 #[.pointer (some ⟨B, 0, none⟩), .int .i64 b, .bool r] w fun e w' => e = .returned (.int .i64 140) ∧ w = w' := by
  subst hr
  have HD := Lib.hid h.nd
  have HH := Lib.hid h
  have HA := Lib.hid (h.ask b)
  have hneg : ¬ b < 0 := by omega
  rw [if_neg hneg] at HA
  clear h
  go_enter Try.func18, Try.ntmps18
  go_wp2_with fail
  refine HA.out.mono ?_
  rintro e w' ⟨rfl, rfl⟩
  have c7 : w.cell? ⟨B, 7, none⟩ = some (.int .i64 0) := cell_at HH.out.obj 7
  go_wp2_with fail
  go_ret
  exact ⟨rfl, rfl⟩
set_option maxRecDepth 100000 in
set_option maxHeartbeats 2000000 in
theorem forget_yes {w : World} {B : Nat} {a : PA} {tb : Nat} {o : PA} {N seq : Nat} {cr rv : Int} {s q : PS} {did : List (Int × Unit)} (h : TO w B a tb o N seq cr rv s q did) {b : Int} (hb : IntOk b) (h0 : 0 ≤ b) (hN : N ≤ 100000) (hsq : seq < 4294967296) (hr : 0 < rv) (hr2 : IntOk rv) : Calls Try.prog 18 #[.pointer (some ⟨B, 0, none⟩), .int .i64 b, .bool true] w fun e w' => e = .returned (.int .i64 0) ∧ TO w' B a tb o (N + 1) seq cr (rv - 1) ⟨delA s.ch b, delA s.od b, insA s.fr b (), insS s.rv b⟩ q did ∧ Touch (B :: tb :: a.ids) w w' := by
  have e0 : (rv == 0) = false := by simp; omega
  have hr3 := hr2.1
  have hr4 := hr2.2
  have HD := Lib.hid h.nd
  have HH := Lib.hid h
  have HA := Lib.hid (h.ask b)
  have hneg : ¬ b < 0 := by omega
  rw [if_neg hneg] at HA
  clear h
  go_enter Try.func18, Try.ntmps18
  go_wp2_with fail
  refine HA.out.mono ?_
  rintro e w' ⟨rfl, rfl⟩
  have c7 : w.cell? ⟨B, 7, none⟩ = some (.int .i64 rv) := cell_at HH.out.obj 7
  have f7 : w.frozen? ⟨B, 7, none⟩ = false := frozen_at HH.out.obj 7
  have hO1 := heap_set HH.out.obj 7 (.int .i64 (rv - 1))
  have HO1 := Lib.hid (hO1.trans (show _ = some (.cells (cellsO a seq cr (rv - 1) tb o).toArray 66) by simp [cellsO]))
  have HT1 := Lib.hid (Touch.setCell (S := [B]) w (a := ⟨B, 7, none⟩) (by simp) (.int .i64 (rv - 1)))
  clear hO1
  go_upto_region 7 with (fail)
  clear c7 f7
  generalize w.setCell ⟨B, 7, none⟩ (.int .i64 (rv - 1)) = W1 at *
  have HC1 := Lib.hid (HH.out.p.ch.kept HT1.out (nd_ne HD.out 1 0 rfl rfl))
  have c0 : W1.cell? ⟨B, 0, none⟩ = some (.map (some a.c)) := cell_at HO1.out 0
  go_upto_region 8 with (first | (at_delete; refine wpList_mapDelete rfl _ _ 60 rfl 33 Try.underlying60 a.c N s.ch rfl HC1.out b hb rfl ?_; intro W2 hm2 ht2))
  have HM2 := Lib.hid hm2
  have HT2 := Lib.hid ht2
  have HO2 := Lib.hid ((ht2.block B (Array.getElem?_eq_some_iff.1 HO1.out).1 (nd_ne HD.out 0 1 rfl rfl)).trans HO1.out)
  clear hm2 ht2 c0
  have HOD2 := Lib.hid ((HH.out.p.od.kept HT1.out (nd_ne HD.out 2 0 rfl rfl)).kept HT2.out (nd_ne HD.out 2 1 rfl rfl))
  have c1 : W2.cell? ⟨B, 1, none⟩ = some (.map (some a.o)) := cell_at HO2.out 1
  go_upto_region 9 with (first | (at_delete; refine wpList_mapDelete rfl _ _ 61 rfl 73 Try.underlying61 a.o N s.od rfl HOD2.out b hb rfl ?_; intro W3 hm3 ht3))
  have HM3 := Lib.hid hm3
  have HT3 := Lib.hid ht3
  have HO3 := Lib.hid ((ht3.block B (Array.getElem?_eq_some_iff.1 HO2.out).1 (nd_ne HD.out 0 2 rfl rfl)).trans HO2.out)
  clear hm3 ht3 c1
  have HF3 := Lib.hid (((HH.out.p.fr.kept HT1.out (nd_ne HD.out 3 0 rfl rfl)).kept HT2.out (nd_ne HD.out 3 1 rfl rfl)).kept HT3.out (nd_ne HD.out 3 2 rfl rfl))
  have c2 : W3.cell? ⟨B, 2, none⟩ = some (.map (some a.f)) := cell_at HO3.out 2
  go_upto_region 10 with (first | (at_mapUpdate; refine wpList_mapStore rfl _ _ _ 61 rfl 73 Try.underlying61 a.f N s.fr rfl HF3.out hN b hb rfl () trivial rfl ?_; intro W5 hm5 ht5))
  have HM5 := Lib.hid hm5
  have HT5 := Lib.hid ht5
  have HO5 := Lib.hid ((ht5.block B (Array.getElem?_eq_some_iff.1 HO3.out).1 (nd_ne HD.out 0 3 rfl rfl)).trans HO3.out)
  clear hm5 ht5 c2
  have HR5 := Lib.hid ((((HH.out.p.rv.kept HT1.out (nd_ne HD.out 4 0 rfl rfl) (nd_ne HD.out 5 0 rfl rfl)).kept HT2.out (nd_ne HD.out 4 1 rfl rfl) (nd_ne HD.out 5 1 rfl rfl)).kept HT3.out (nd_ne HD.out 4 2 rfl rfl) (nd_ne HD.out 5 2 rfl rfl)).kept HT5.out (nd_ne HD.out 4 3 rfl rfl) (nd_ne HD.out 5 3 rfl rfl))
  go_upto_region 11 with (fail)
  refine forget_reg11 B a.B a.m N seq b s.rv W5 (Lib.hid ⟨(Array.getElem?_eq_some_iff.1 HO5.out).1, cell_at HO5.out 3⟩) (Lib.hid ⟨(Array.getElem?_eq_some_iff.1 HO5.out).1, cell_at HO5.out 4⟩) HR5 hN (Lib.hid hsq) (Lib.hid hb) h0 _ _ _ _ _ _ _ _ _ _ _ _ _ _ _ _ _ _ _ _ _ _ _ _ _ _ _ _ _ _ _ _ _ _ _ _ _ _ _ _ _ _ _ _ _ _ _ _ _ _ _ _ _ _ _ _ (Lib.hid ?hk10)
  intro u46 u47 u48 u49 u50 u51 u52 u53 u54 u55 u56 W6 hm6 ht6
  have HM6 := Lib.hid hm6
  have HT6 := Lib.hid ht6
  clear hm6 ht6
  go_wp2_with fail
  go_ret
  have h01 := HT1.out
  have h12 := HT2.out
  have h23 := HT3.out
  have h35 := HT5.out
  have h56 := HT6.out
  refine ⟨rfl, ⟨(h56.block B (Array.getElem?_eq_some_iff.1 HO5.out).1 (nd_ne HD.out 0 5 rfl rfl)).trans HO5.out, ⟨(((HM2.out.kept h23 (nd_ne HD.out 1 2 rfl rfl)).kept h35 (nd_ne HD.out 1 3 rfl rfl)).kept h56 (nd_ne HD.out 1 5 rfl rfl)).mono (by omega), ((HM3.out.kept h35 (nd_ne HD.out 2 3 rfl rfl)).kept h56 (nd_ne HD.out 2 5 rfl rfl)).mono (by omega), (HM5.out.kept h56 (nd_ne HD.out 3 5 rfl rfl)).mono (by omega), HM6.out.mono (by omega)⟩, (((((HH.out.t.kept h01 (nd_ne HD.out 6 0 rfl rfl)).kept h12 (nd_ne HD.out 6 1 rfl rfl)).kept h23 (nd_ne HD.out 6 2 rfl rfl)).kept h35 (nd_ne HD.out 6 3 rfl rfl)).kept h56 (nd_ne HD.out 6 5 rfl rfl)).mono (by omega), (((((HH.out.q.kept h01 (nd_o HD.out 0 rfl)).kept h12 (nd_o HD.out 1 rfl)).kept h23 (nd_o HD.out 2 rfl)).kept h35 (nd_o HD.out 3 rfl)).kept h56 (nd_o HD.out 5 rfl)).mono (by omega), HD.out⟩, ?_⟩
  exact (((((Touch.refl (B :: tb :: a.ids) w).trans h01 (by simp)).trans h12 (by simp [PA.ids])).trans h23 (by simp [PA.ids])).trans h35 (by simp [PA.ids])).trans h56 (by simp [PA.ids])
set_option maxRecDepth 100000 in
set_option maxHeartbeats 2000000 in
theorem forget_no {w : World} {B : Nat} {a : PA} {tb : Nat} {o : PA} {N seq : Nat} {cr rv : Int} {s q : PS} {did : List (Int × Unit)} (h : TO w B a tb o N seq cr rv s q did) {b : Int} (hb : IntOk b) (h0 : 0 ≤ b) (hN : N ≤ 100000) (hsq : seq < 4294967296) (hr : 0 < rv) (hr2 : IntOk rv) : Calls Try.prog 18 #[.pointer (some ⟨B, 0, none⟩), .int .i64 b, .bool false] w fun e w' => e = .returned (.int .i64 0) ∧ TO w' B a tb o (N + 1) seq cr (rv - 1) ⟨delA s.ch b, delA s.od b, insA s.fr b (), s.rv⟩ q did ∧ Touch (B :: tb :: a.ids) w w' := by
  have e0 : (rv == 0) = false := by simp; omega
  have hr3 := hr2.1
  have hr4 := hr2.2
  have HD := Lib.hid h.nd
  have HH := Lib.hid h
  have HA := Lib.hid (h.ask b)
  have hneg : ¬ b < 0 := by omega
  rw [if_neg hneg] at HA
  clear h
  go_enter Try.func18, Try.ntmps18
  go_wp2_with fail
  refine HA.out.mono ?_
  rintro e w' ⟨rfl, rfl⟩
  have c7 : w.cell? ⟨B, 7, none⟩ = some (.int .i64 rv) := cell_at HH.out.obj 7
  have f7 : w.frozen? ⟨B, 7, none⟩ = false := frozen_at HH.out.obj 7
  have hO1 := heap_set HH.out.obj 7 (.int .i64 (rv - 1))
  have HO1 := Lib.hid (hO1.trans (show _ = some (.cells (cellsO a seq cr (rv - 1) tb o).toArray 66) by simp [cellsO]))
  have HT1 := Lib.hid (Touch.setCell (S := [B]) w (a := ⟨B, 7, none⟩) (by simp) (.int .i64 (rv - 1)))
  clear hO1
  go_upto_region 7 with (fail)
  clear c7 f7
  generalize w.setCell ⟨B, 7, none⟩ (.int .i64 (rv - 1)) = W1 at *
  have HC1 := Lib.hid (HH.out.p.ch.kept HT1.out (nd_ne HD.out 1 0 rfl rfl))
  have c0 : W1.cell? ⟨B, 0, none⟩ = some (.map (some a.c)) := cell_at HO1.out 0
  go_upto_region 8 with (first | (at_delete; refine wpList_mapDelete rfl _ _ 60 rfl 33 Try.underlying60 a.c N s.ch rfl HC1.out b hb rfl ?_; intro W2 hm2 ht2))
  have HM2 := Lib.hid hm2
  have HT2 := Lib.hid ht2
  have HO2 := Lib.hid ((ht2.block B (Array.getElem?_eq_some_iff.1 HO1.out).1 (nd_ne HD.out 0 1 rfl rfl)).trans HO1.out)
  clear hm2 ht2 c0
  have HOD2 := Lib.hid ((HH.out.p.od.kept HT1.out (nd_ne HD.out 2 0 rfl rfl)).kept HT2.out (nd_ne HD.out 2 1 rfl rfl))
  have c1 : W2.cell? ⟨B, 1, none⟩ = some (.map (some a.o)) := cell_at HO2.out 1
  go_upto_region 9 with (first | (at_delete; refine wpList_mapDelete rfl _ _ 61 rfl 73 Try.underlying61 a.o N s.od rfl HOD2.out b hb rfl ?_; intro W3 hm3 ht3))
  have HM3 := Lib.hid hm3
  have HT3 := Lib.hid ht3
  have HO3 := Lib.hid ((ht3.block B (Array.getElem?_eq_some_iff.1 HO2.out).1 (nd_ne HD.out 0 2 rfl rfl)).trans HO2.out)
  clear hm3 ht3 c1
  have HF3 := Lib.hid (((HH.out.p.fr.kept HT1.out (nd_ne HD.out 3 0 rfl rfl)).kept HT2.out (nd_ne HD.out 3 1 rfl rfl)).kept HT3.out (nd_ne HD.out 3 2 rfl rfl))
  have c2 : W3.cell? ⟨B, 2, none⟩ = some (.map (some a.f)) := cell_at HO3.out 2
  go_upto_region 10 with (first | (at_mapUpdate; refine wpList_mapStore rfl _ _ _ 61 rfl 73 Try.underlying61 a.f N s.fr rfl HF3.out hN b hb rfl () trivial rfl ?_; intro W5 hm5 ht5))
  have HM5 := Lib.hid hm5
  have HT5 := Lib.hid ht5
  have HO5 := Lib.hid ((ht5.block B (Array.getElem?_eq_some_iff.1 HO3.out).1 (nd_ne HD.out 0 3 rfl rfl)).trans HO3.out)
  clear hm5 ht5 c2
  have HR5 := Lib.hid ((((HH.out.p.rv.kept HT1.out (nd_ne HD.out 4 0 rfl rfl) (nd_ne HD.out 5 0 rfl rfl)).kept HT2.out (nd_ne HD.out 4 1 rfl rfl) (nd_ne HD.out 5 1 rfl rfl)).kept HT3.out (nd_ne HD.out 4 2 rfl rfl) (nd_ne HD.out 5 2 rfl rfl)).kept HT5.out (nd_ne HD.out 4 3 rfl rfl) (nd_ne HD.out 5 3 rfl rfl))
  go_wp2_with fail
  have HM6 := Lib.hid HR5.out
  have HT6 := Lib.hid (Touch.refl [a.m] W5)
  go_ret
  have h01 := HT1.out
  have h12 := HT2.out
  have h23 := HT3.out
  have h35 := HT5.out
  have h56 := HT6.out
  refine ⟨rfl, ⟨(h56.block B (Array.getElem?_eq_some_iff.1 HO5.out).1 (nd_ne HD.out 0 5 rfl rfl)).trans HO5.out, ⟨(((HM2.out.kept h23 (nd_ne HD.out 1 2 rfl rfl)).kept h35 (nd_ne HD.out 1 3 rfl rfl)).kept h56 (nd_ne HD.out 1 5 rfl rfl)).mono (by omega), ((HM3.out.kept h35 (nd_ne HD.out 2 3 rfl rfl)).kept h56 (nd_ne HD.out 2 5 rfl rfl)).mono (by omega), (HM5.out.kept h56 (nd_ne HD.out 3 5 rfl rfl)).mono (by omega), HM6.out.mono (by omega)⟩, (((((HH.out.t.kept h01 (nd_ne HD.out 6 0 rfl rfl)).kept h12 (nd_ne HD.out 6 1 rfl rfl)).kept h23 (nd_ne HD.out 6 2 rfl rfl)).kept h35 (nd_ne HD.out 6 3 rfl rfl)).kept h56 (nd_ne HD.out 6 5 rfl rfl)).mono (by omega), (((((HH.out.q.kept h01 (nd_o HD.out 0 rfl)).kept h12 (nd_o HD.out 1 rfl)).kept h23 (nd_o HD.out 2 rfl)).kept h35 (nd_o HD.out 3 rfl)).kept h56 (nd_o HD.out 5 rfl)).mono (by omega), HD.out⟩, ?_⟩
  exact (((((Touch.refl (B :: tb :: a.ids) w).trans h01 (by simp)).trans h12 (by simp [PA.ids])).trans h23 (by simp [PA.ids])).trans h35 (by simp [PA.ids])).trans h56 (by simp [PA.ids])
#print axioms forget_no
end Go.Proofs.Ytnogajnoghjmhaa
