/- revoke.Table: Drop: the walk. -/
import Derived.Test.YtbpejjgjjjmlkaaR7
import Derived.Deep.Cut
set_option linter.unusedVariables false
set_option linter.unusedSimpArgs false
namespace Go.Proofs.Ytbpejjgjjjmlkaa
open Go.RowKit Go.Maps

def dropTo (m : List Rc) (s : Nat) (left : Lit → Bool) : List Rc := m.filter fun r => left (kl r) || decide (s < r.2)
def dropR (m : List Rc) (s : Nat) : List Rc := m.filter fun r => decide (s < r.2)
theorem dropTo_start {D : DataW Unit} {m : List Rc} (h : SetOf D m) (s : Nat) : dropTo m s (Maps.has D) = m := by
  unfold dropTo
  rw [List.filter_eq_self]
  intro r hr
  rw [h.has r (h.ok r hr), decide_eq_true hr]
  rfl
theorem dropTo_end (m : List Rc) (s : Nat) {left : Lit → Bool} (h : ∀ l, left l = false) : dropTo m s left = dropR m s := by
  unfold dropTo dropR
  congr 1
  funext r
  rw [h]; rfl
theorem dropTo_stays {m : List Rc} {s : Nat} {left : Lit → Bool} (hok : ∀ r ∈ m, RcOk r) {x : Rc} (hx : RcOk x) (hs : s < x.2) : dropTo m s (fun z => left z && !z.sameKey (kl x)) = dropTo m s left := by
  unfold dropTo
  apply List.filter_congr
  intro r hr
  simp only [kl_same (hok r hr) hx]
  by_cases e : r = x
  · subst e; simp [hs]
  · simp [e]
theorem dropTo_goes {m : List Rc} {s : Nat} {left : Lit → Bool} (hok : ∀ r ∈ m, RcOk r) {x : Rc} (hx : RcOk x) (hs : ¬ s < x.2) : dropTo m s (fun z => left z && !z.sameKey (kl x)) = delR (dropTo m s left) x := by
  unfold dropTo delR
  rw [List.filter_filter]
  apply List.filter_congr
  intro r hr
  simp only [kl_same (hok r hr) hx]
  by_cases e : r = x
  · subst e; simp [hs]
  · simp [e]
/-- a round's state -/
structure DInv (m : List Rc) (s : Nat) (B bm n : Nat) (w : World) (left : Lit → Bool) (cnt : Nat) (wr : World) : Prop where
  rng : ∃ D, wr.ranges Try.prog 60 (unitElem (H := Unit)) bm w.heap.size n D left cnt ∧ SetOf D (dropTo m s left)
  obj : wr.heap[B]? = some (.cells #[.map (some bm)] 50)
  touch : Touch [bm] w wr
set_option maxRecDepth 100000 in
set_option maxHeartbeats 2000000 in
theorem drop_ok {w : World} {B bm n : Nat} {m : List Rc} (h : Tab w B bm n m) (s : Nat) (hs32 : s < 4294967296) : Calls Try.prog 22 #[.pointer (some ⟨B, 0, none⟩), .int .u32 (s : Int)] w fun e w' => (∃ v, e = .returned v) ∧ Tab w' B bm n (dropR m s) ∧ Touch [bm] w w' := by
  have HT := Lib.hid h
  have c0 := h.cell
  obtain ⟨D, hown, hs⟩ := h.map
  have HO := Lib.hid hown
  have HS := Lib.hid hs
  have HBM := Lib.hid h.lt
  have HBN := Lib.hid h.ne
  clear h hown hs
  go_enter Try.func22, Try.ntmps22
  go_wp2_with fail
  refine (made_yes HT.out).mono ?_
  rintro e w' ⟨rfl, rfl⟩
  go_wp2_with (first | (at_range; refine wpList_range_own _ rfl _ 48 rfl 60 67 keyed Try.underlying48 _ bm n D rfl HO.out ?_; intro w0 hrg0 hg0 hs0))
  go_frame
  have HI := Lib.hid (show DInv m s B bm n w (Maps.has D) (Maps.size D) w0 from { rng := ⟨D, hrg0, by rw [dropTo_start HS.out]; exact HS.out⟩, obj := (hg0.block B HBM.out.1 (by simp)).trans HT.out.obj, touch := Touch.grown hg0 (by simp) })
  clear hrg0 hg0 hs0 c0
  go_loopw [4] (fun t4 wr => ∃ (left : Lit → Bool) (cnt : Nat), Hid (DInv m s B bm n w left cnt wr)) (fun _ wr => wr.rangeLeft bm w.heap.size)
  case atStart => exact ⟨_, _, HI⟩
  case round =>
    obtain ⟨left, cnt, HI⟩ := hrel
    obtain ⟨D1, hr1, hs1⟩ := HI.out.rng
    have HR := Lib.hid hr1
    have HS1 := Lib.hid hs1
    clear hr1 hs1
    go_wp2_with (first | (at_next; refine wpList_next_ranges _ rfl _ rfl 60 keyed (unitElem (H := Unit)) (fun x : Rc => Value.agg #[.int .i64 x.1, .int .u32 (x.2 : Int)]) (fun _ : Unit => Value.agg #[]) (fun key l hk => by obtain ⟨r, _, h2, _⟩ := keyOf_inv hk; exact ⟨r, h2⟩) (fun v y hv => ⟨(), (unitElem_inv hv).1⟩) bm w.heap.size n _ _ _ rfl HR.out ?_ ?_))
    · intro _ hl0
      have HF := Lib.hid (show Tab wr B bm n (dropR m s) from ⟨HI.out.obj, D1, HR.out.owns, by rw [← dropTo_end m s hl0]; exact HS1.out⟩)
      have HG := Lib.hid HI.out.touch
      clear hl0
      go_wp2_with fail
      go_end0
      exact ⟨⟨_, rfl⟩, HF.out, HG.out⟩
    · intro xb xs l0 y1 y2 w1 cnt1 hkey hlk hv hat hrg1 hlt hg1 hsz1 hen
      obtain ⟨hok, rfl⟩ := kv_inv (x := (xb, xs)) hkey
      have HKY := Lib.hid hkey
      have HOK := Lib.hid hok
      have HR1 := Lib.hid hrg1
      have HG1 := Lib.hid hg1
      have HLT := Lib.hid hlt
      have hx32 : xs < 4294967296 := hok.2.2
      have HT1 := Lib.hid (show Touch [bm] w w1 from HI.out.touch.trans (Touch.grown (S := [w.heap.size]) hg1 (fun k e => by cases e; simp)) (by simp))
      have HOB := Lib.hid (show w1.heap[B]? = some (.cells #[.map (some bm)] 50) from (hg1.block B (Array.getElem?_eq_some_iff.1 HI.out.obj).1 (fun e => by have := Option.some.inj e; have := HBM.out.1; omega)).trans HI.out.obj)
      clear hkey hlk hv hat hrg1 hg1 hlt hok hsz1
      by_cases hxb : s < xs
      · have e1 : decide (xs ≤ s) = false := by simp; omega
        have e2 : decide ((xs : Int) ≤ (s : Int)) = false := by simp; omega
        have HI2 := Lib.hid (show DInv m s B bm n w (fun z => left z && !z.sameKey (kl (xb, xs))) cnt1 (w1.alloc (.cells #[.int .i64 xb, .int .u32 (xs : Int)] 60)) from
          { rng := ⟨D1, HR1.out.alloc _, by rw [dropTo_stays HS.out.ok HOK.out hxb]; exact HS1.out⟩, obj := (Below.heap_alloc _ _ _ (Array.getElem?_eq_some_iff.1 HOB.out).1).trans HOB.out, touch := HT1.out.trans (Touch.alloc [] _ _) (by simp) })
        go_wp2_with fail
        go_roundw
        case rel => exact ⟨_, _, HI2⟩
        case measure => rw [(HR1.out.alloc _).left_eq, HR.out.left_eq]; exact HLT.out
      · have e1 : decide (xs ≤ s) = true := by simp; omega
        have e2 : decide ((xs : Int) ≤ (s : Int)) = true := by simp; omega
        have HR2 := Lib.hid (HR1.out.alloc (.cells #[.int .i64 xb, .int .u32 (xs : Int)] 60))
        have HCB := Lib.hid (show B < (w1.alloc (.cells #[.int .i64 xb, .int .u32 (xs : Int)] 60)).heap.size ∧ (w1.alloc (.cells #[.int .i64 xb, .int .u32 (xs : Int)] 60)).cell? ⟨B, 0, none⟩ = some (.map (some bm)) from ⟨by have := (Array.getElem?_eq_some_iff.1 HOB.out).1; simp; omega, cell_at ((Below.heap_alloc _ _ _ (Array.getElem?_eq_some_iff.1 HOB.out).1).trans HOB.out) 0⟩)
        have HOB2 := Lib.hid (show (w1.alloc (.cells #[.int .i64 xb, .int .u32 (xs : Int)] 60)).heap[B]? = some (.cells #[.map (some bm)] 50) from (Below.heap_alloc _ _ _ (Array.getElem?_eq_some_iff.1 HOB.out).1).trans HOB.out)
        have HCP := Lib.hid (show w1.heap.size < (w1.alloc (.cells #[.int .i64 xb, .int .u32 (xs : Int)] 60)).heap.size ∧ (w1.alloc (.cells #[.int .i64 xb, .int .u32 (xs : Int)] 60)).heap[w1.heap.size]? = some (.cells #[.int .i64 xb, .int .u32 (xs : Int)] 60) from ⟨by simp, heap_alloc_last _ _⟩)
        have HT2 := Lib.hid (HT1.out.trans (Touch.alloc [] w1 (.cells #[.int .i64 xb, .int .u32 (xs : Int)] 60)) (by simp))
        go_upto_region 5 with (fail)
        generalize w1.alloc (.cells #[.int .i64 xb, .int .u32 (xs : Int)] 60) = W2 at *
        obtain ⟨PP, hPP⟩ : ∃ PP, PP = w1.heap.size := ⟨_, rfl⟩
        rw [← hPP] at HCP
        rw [← hPP]
        clear hPP hen
        refine wp_region_facts_tail 5 (by kernel_rfl) (by kernel_rfl) [[], [(0, some 21)], [(1, some 22)], [(2, some 23)], []] [(0, some 21), (1, some 22), (2, some 23), (3, some 24), (4, some 25)] (by kernel_rfl) (by kernel_rfl) (by kernel_rfl) (Touch []) (Touch.refl []) (fun _ _ _ h h' => h.trans h' (fun i hi => .inl hi)) [Is (Value.pointer (some ⟨B, 0, none⟩)), Is (Value.pointer (some ⟨B, 0, none⟩)), Is (Value.pointer (some ⟨B, 0, none⟩)), Is (Value.map (some bm)), Is (Value.agg #[Value.int .i64 xb, Value.int .u32 (xs : Int)])] rfl ⟨is_stab _ _, is_stab _ _, is_stab _ _, is_stab _ _, is_stab _ _, trivial⟩ ⟨?o0, ?o1, ?o2, ?o3, ?o4, trivial⟩ ?_
        case o0 =>
          intro vals wq hRq hpq
          simp only [List.getD_cons_zero, List.getD_cons_succ, canonP]
          simp only [Oper.gives]
          go_simp
          exact ⟨is_mk _ _, (Touch.refl []) _⟩
        case o1 =>
          intro vals wq hRq hpq
          simp only [factsP, List.getD_cons_zero, List.getD_cons_succ] at hpq
          have f0 := hpq.1
          replace hpq := hpq.2
          clear hpq
          replace f0 : vals 0 = _ := f0
          simp only [List.getD_cons_zero, List.getD_cons_succ, canonP, f0]
          clear f0
          simp only [Oper.gives]
          go_simp
          exact ⟨is_mk _ _, Touch.refl _ _⟩
        case o2 =>
          intro vals wq hRq hpq
          simp only [factsP, List.getD_cons_zero, List.getD_cons_succ] at hpq
          have f1 := hpq.1
          replace hpq := hpq.2
          clear hpq
          replace f1 : vals 1 = _ := f1
          simp only [List.getD_cons_zero, List.getD_cons_succ, canonP, f1]
          clear f1
          simp only [Oper.gives]
          go_simp
          exact ⟨is_mk _ _, Touch.refl _ _⟩
        case o3 =>
          intro vals wq hRq hpq
          simp only [factsP, List.getD_cons_zero, List.getD_cons_succ] at hpq
          have f2 := hpq.1
          replace hpq := hpq.2
          clear hpq
          replace f2 : vals 2 = _ := f2
          simp only [List.getD_cons_zero, List.getD_cons_succ, canonP, f2]
          clear f2
          have hcc : wq.cell? ⟨B, 0, none⟩ = some (.map (some bm)) := (Touch.cell ((Touch.drew [] _).trans hRq (by simp)) HCB.out.1 (by simp)).trans HCB.out.2
          simp only [Oper.gives]
          go_simp
          exact ⟨is_mk _ _, Touch.refl _ _⟩
        case o4 =>
          intro vals wq hRq hpq
          simp only [List.getD_cons_zero, List.getD_cons_succ, canonP]
          have hc0 : wq.cell? ⟨PP, 0, none⟩ = some (.int .i64 xb) := (Touch.cell ((Touch.drew [] _).trans hRq (by simp)) HCP.out.1 (by simp)).trans (cell_at HCP.out.2 0)
          have hc1 : wq.cell? ⟨PP, 1, none⟩ = some (.int .u32 (xs : Int)) := (Touch.cell ((Touch.drew [] _).trans hRq (by simp)) HCP.out.1 (by simp)).trans (cell_at HCP.out.2 1)
          simp only [Oper.gives]
          go_simp
          exact ⟨is_mk _ _, Touch.refl _ _⟩
        intro vals wz hRwz hfwz
        simp only [AllFacts] at hfwz
        have g0 := hfwz.1
        replace hfwz := hfwz.2
        have g1 := hfwz.1
        replace hfwz := hfwz.2
        have g2 := hfwz.1
        replace hfwz := hfwz.2
        have g3 := hfwz.1
        replace hfwz := hfwz.2
        have g4 := hfwz.1
        replace hfwz := hfwz.2
        clear hfwz
        replace g0 : vals 0 = _ := g0
        replace g1 : vals 1 = _ := g1
        replace g2 : vals 2 = _ := g2
        replace g3 : vals 3 = _ := g3
        replace g4 : vals 4 = _ := g4
        simp only [List.drop_succ_cons, List.drop_zero]
        simp only [canonP, Act.put, List.setIfInBounds_toArray, List.set_cons_succ, List.set_cons_zero, g0, g1, g2, g3, g4]
        clear g0 g1 g2 g3 g4
        refine wpList_delete_ranges _ rfl _ _ 48 60 rfl 67 keyed Try.underlying48 _ bm w.heap.size n D1 _ cnt1 rfl (ranges_touch HR2.out ((Touch.drew [] _).trans hRwz (by simp)) (by simp) (by simp)) _ (kl (xb, xs)) rfl HKY.out ?_
        intro w3 cnt3 hrg3 hle hturn
        rw [strike_twice] at hrg3
        have htz : Touch [] W2 wz := (Touch.drew [] _).trans hRwz (by simp)
        have HI2 := Lib.hid (show DInv m s B bm n w (fun z => left z && !z.sameKey (kl (xb, xs))) cnt3 w3 from
          { rng := ⟨_, hrg3, by rw [dropTo_goes HS.out.ok HOK.out hxb]; exact HS1.out.del (HR.out.owns.tidy keyed) HOK.out⟩, obj := (hturn.grown.block B (Nat.lt_of_lt_of_le (Array.getElem?_eq_some_iff.1 HOB2.out).1 htz.size) (fun e => HBN.out (Option.some.inj e))).trans ((htz.block B (Array.getElem?_eq_some_iff.1 HOB2.out).1 (by simp)).trans HOB2.out), touch := (HT2.out.trans htz (by simp)).trans (Touch.grown (S := [bm]) hturn.grown (fun k e => by cases e; simp)) (fun i hi => .inl hi) })
        have HM := Lib.hid (show w3.rangeLeft bm w.heap.size < wr.rangeLeft bm w.heap.size by rw [hrg3.left_eq, HR.out.left_eq]; have := HLT.out; omega)
        clear hrg3 hle hturn htz hRwz
        go_frame
        go_wp2_with fail
        go_roundw
        case rel => exact ⟨_, _, HI2⟩
        case measure => exact HM.out
#print axioms drop_ok
end Go.Proofs.Ytbpejjgjjjmlkaa
