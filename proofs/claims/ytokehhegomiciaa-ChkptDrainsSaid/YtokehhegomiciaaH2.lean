/- A list of committed transactions: forget. -/
import Derived.Test.YtokehhegomiciaaH1
set_option linter.unusedVariables false
set_option linter.unusedSimpArgs false
namespace Go.Proofs.Ytokehhegomiciaa
open Go.RowKit Go.Maps

def CV.forget (b : Int) (x : CV) : CV := x.setL (forgetL b x.t.left)
def fK (b : Int) (k : Nat) (xs : List CV) : List CV := (xs.take k).map (CV.forget b) ++ xs.drop k
theorem fK_zero (b : Int) (xs : List CV) : fK b 0 xs = xs := by unfold fK; simp
theorem fK_all (b : Int) (xs : List CV) : fK b xs.length xs = xs.map (CV.forget b) := by unfold fK; simp
theorem fK_len (b : Int) (k : Nat) (xs : List CV) : (fK b k xs).length = xs.length := by unfold fK; simp; omega
theorem fK_at {b : Int} {k : Nat} {xs : List CV} {x : CV} (h : xs[k]? = some x) : (fK b k xs)[k]? = some x := by
  have hl := (List.getElem?_eq_some_iff.1 h).1
  unfold fK
  rw [List.getElem?_append_right (by simp; omega), List.getElem?_drop]
  simp only [List.length_map, List.length_take]
  rw [show k + (k - min k xs.length) = k by omega]; exact h
theorem fK_next {b : Int} {k : Nat} {xs : List CV} {x : CV} (h : xs[k]? = some x) : fK b (k + 1) xs = (fK b k xs).set k (x.setL (forgetL b x.t.left)) := by
  have hl := (List.getElem?_eq_some_iff.1 h).1
  have hx : xs[k] = x := by rw [List.getElem?_eq_getElem hl] at h; exact Option.some.inj h
  unfold fK
  rw [List.set_append_right _ _ (by simp; omega)]
  simp only [List.length_map, List.length_take]
  rw [show k - min k xs.length = 0 by omega, List.take_add_one, h, List.map_append, List.drop_eq_getElem_cons hl, List.set_cons_zero, List.append_assoc]
  rfl
theorem forget_map (b : Int) (xs : List CV) : (xs.map (CV.forget b)).map (·.t) = (xs.map (·.t)).map (CT.forget b) := by
  rw [List.map_map, List.map_map]; rfl
set_option maxHeartbeats 1000000 in
theorem forget_ok {w : World} {B : Nat} {g : G4} {s : CS} {T : List Nat} {va : Value} {xs : List CV} (h : LSt w B g s T va xs) (b : Int) (hb : IntOk b) : Calls Try.prog 32 #[.pointer (some ⟨B, 0, none⟩), .int .i64 b] w fun e w' => e = .returned (.tuple #[]) ∧ LSt w' B g (s.forget b) T va (xs.map (CV.forget b)) ∧ Touch T w w' := by
  obtain ⟨a, cap, rfl⟩ := h.va
  have HH := Lib.hid h
  have c7 : w.cell? ⟨B, 7, none⟩ = some (.slice a s.all.length cap) := cell_at h.li.obj 7
  have hn := h.rowlen
  have hnb := h.li.len
  rw [hn] at hnb
  generalize s.all.length = n at *
  have HN := Lib.hid hn
  clear h hn
  go_enter Try.func32, Try.ntmps32
  go_wp2_with fail
  clear c7
  go_loopw [10] (fun t10 wr => ∃ k : Nat, t10 = .int .i64 (k : Int) ∧ k ≤ n ∧ Hid (LI wr B g s.added s.last (.slice a n cap) (fK b k xs) ∧ Touch T w wr)) (fun t10 _ => n - (intOf t10).toNat)
  case atStart => exact ⟨0, by go_num, by omega, Lib.hid ⟨by rw [fK_zero]; exact HH.out.li, Touch.refl _ _⟩⟩
  case round =>
    obtain ⟨k, rfl, hkn, HK⟩ := hrel
    by_cases hk : k < n
    · obtain ⟨x, hx⟩ : ∃ x, xs[k]? = some x := ⟨xs[k]'(by rw [HN.out]; exact hk), by simp⟩
      have hx1 := fK_at (b := b) hx
      obtain ⟨ga, oa, rfl, hr, q2, q3, q4⟩ := HK.out.1.elem hx1
      have c7 : wr.cell? ⟨B, 7, none⟩ = some (.slice (some ⟨ga, oa, none⟩) n cap) := cell_at HK.out.1.obj 7
      have HM := Lib.hid (HK.out.1.is x (List.mem_of_getElem? hx1)).map
      have HX := Lib.hid hx
      have HB := Lib.hid hb
      clear hx hx1 hr q2 q3
      go_wp2_with (first | (at_delete; refine wpList_mapDelete rfl _ _ 80 rfl 35 Try.underlying80 x.m 600 (pr x.t.left) rfl HM.out b HB.out rfl ?_; intro w1 hm1 ht1))
      have HK1 := Lib.hid (show LI w1 B g s.added s.last (.slice (some ⟨ga, oa, none⟩) n cap) (fK b (k + 1) xs) ∧ Touch T w w1 from ⟨by rw [fK_next HX.out]; exact HK.out.1.set (fK_at HX.out) ht1 (by rw [pr_del] at hm1; exact hm1) ((List.filter_sublist ..).trans (HH.out.li.is x (List.mem_of_getElem? HX.out)).ok.sub), HK.out.2.trans ht1 (fun i hi => .inl (by rw [List.mem_singleton.1 hi]; exact HH.out.m x (List.mem_of_getElem? HX.out)))⟩)
      clear hm1 ht1
      go_roundw
      case rel => exact ⟨k + 1, by go_num, by omega, HK1⟩
      case measure => simp [intOf]; omega
    · obtain rfl : k = n := by omega
      have HE := Lib.hid HK.out
      go_wp2_with fail
      go_end0
      obtain ⟨h1, h2⟩ := HE.out
      rw [← HN.out, fK_all] at h1
      rw [HN.out] at h1
      refine ⟨rfl, ⟨h1, ?_, HH.out.b, HH.out.a, ?_, ?_⟩, h2⟩
      · rw [forget_map, HH.out.all]; rfl
      · intro y hy
        obtain ⟨z, hz, rfl⟩ := List.mem_map.1 hy
        exact HH.out.m z hz
      · intro y hy
        obtain ⟨z, hz, rfl⟩ := List.mem_map.1 hy
        exact HH.out.v z hz
#print axioms forget_ok
end Go.Proofs.Ytokehhegomiciaa
