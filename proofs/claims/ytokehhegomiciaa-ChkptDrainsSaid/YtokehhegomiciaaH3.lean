/- A list of committed transactions: Get. -/
import Derived.Test.YtokehhegomiciaaH2
set_option linter.unusedVariables false
set_option linter.unusedSimpArgs false
namespace Go.Proofs.Ytokehhegomiciaa
open Go.RowKit Go.Maps

/-- the copy of a block among some -/
def findC (l : List Cp) (b : Int) : Option Cp := l.find? fun c => decide (c.1 = b)
/-- .. of the last transaction that has one left -/
def getC : List CT → Int → Option Cp
  | [], _ => none
  | t :: l, b => (getC l b).or (findC t.left b)
theorem look_pr (l : List Cp) (b : Int) : lookA (pr l) b = findC l b := by
  unfold lookA pr findC
  rw [List.find?_map]
  cases h : l.find? fun c => decide (c.1 = b) <;> simp [Function.comp_def, h]
theorem mem_pr (l : List Cp) (b : Int) : decide (b ∈ keysA (pr l)) = (findC l b).isSome := by rw [← lookA_isSome, look_pr]
theorem getC_drop {l : List CT} {k : Nat} {t : CT} (h : l[k]? = some t) (b : Int) : getC (l.drop k) b = (getC (l.drop (k + 1)) b).or (findC t.left b) := by
  have hl := (List.getElem?_eq_some_iff.1 h).1
  rw [List.drop_eq_getElem_cons hl, getC]
  rw [List.getElem?_eq_getElem hl] at h
  rw [Option.some.inj h]
theorem getC_upto : ∀ (l : List CT) (k : Nat) (b : Int) (c : Cp), getC (l.drop k) b = some c → getC l b = some c := by
  intro l
  induction l with
  | nil => intro k b c h; simpa using h
  | cons t l ih =>
    intro k b c h
    cases k with
    | zero => exact h
    | succ k => rw [getC, ih k b c h]; rfl
theorem findC_mem {l : List Cp} {b : Int} {c : Cp} (h : findC l b = some c) : c ∈ l ∧ c.1 = b := by
  unfold findC at h
  exact ⟨List.mem_of_find?_eq_some h, by simpa using List.find?_some h⟩
def dataC (o : Option Cp) : Blk := match o with
  | some c => c.2
  | none => zeroB
theorem dataC_len {l : List Cp} (h : ∀ c ∈ l, c.2.length = 256) (b : Int) : (dataC (findC l b)).length = 256 := by
  cases e : findC l b with
  | none => exact zeroB_ok
  | some c => exact h c (findC_mem e).1
theorem results_row_tmp {P : Program} {fn : Func} {p q : Tmp} {ty : TypeId} (h : fn.results = #[.cell p ty, .tmp q]) (tmps : Array Value) (w : World) (g : Nat) (t : TypeId) (cs : Array Value) (fr : Nat × Nat) (d : TypeDesc) (v : Value)
    (hp : tmps.getD p undef = .pointer (some ⟨g, 0, none⟩)) (hg : w.heap[g]? = some (.cells cs t fr))
    (hu : P.underlying ty = some d) (hd : (match d with | .struct _ | .array _ _ => true | _ => false) = true) (hi : (P.info? ty).map (·.size) = some cs.size) (hv : tmps.getD q undef = v) :
    (results fn tmps).run P w = .ok (.tuple #[.agg cs, v]) w := by
  have hp' : tmps[p]?.getD undef = .pointer (some ⟨g, 0, none⟩) := by simpa using hp
  have hv' : tmps[q]?.getD undef = v := by simpa using hv
  simp [results, h, hp', hv', asAddr, run_loadVar_row w g t ty cs fr d hg hu hd hi]
theorem builtB : Try.prog.built 33 [] = some (bc zeroB).toArray := by kernel_rfl
set_option maxRecDepth 100000 in
theorem get_not {w : World} {v : Value} {b : Int} (hI : ∀ w', Grow w w' → Calls Try.prog 30 #[v] w' fun e w1 => e = .returned (.bool false) ∧ w' = w1) : Calls Try.prog 22 #[v, .int .i64 b] w fun e w' => e = .returned (.tuple #[.agg (bc zeroB).toArray, .bool false]) ∧ Grow w w' := by
  have hz := zero32
  have hs := zero_size
  have hb := builtB
  have hzo : (bc zeroB).toArray.all (·.oneCell') = true := all_oneCell_toArray (bc_one _)
  generalize hZ : (bc zeroB).toArray = Z at *
  have HSz := Lib.hid (show (Try.prog.info? 33).map (·.size) = some Z.size by rw [hs]; exact size32)
  have HB := Lib.hid hb
  have HO := Lib.hid hzo
  have HI := Lib.hid hI
  clear hZ hb hzo
  go_enter Try.func22, Try.ntmps22
  go_wp2_with fail
  refine (HI.out _ (Grow.alloc _ _)).mono ?_
  rintro e w' ⟨rfl, rfl⟩
  go_wp2_with (first | ((refine wpList_build rfl 33 _ rfl (by rw [show (((#[] : Array (Nat × Operand)).map fun (i, x) => (i, Act.eval _ x)).toList) = [] from rfl, HB.out]; rfl) ?_); rw [show (((#[] : Array (Nat × Operand)).map fun (i, x) => (i, Act.eval _ x)).toList) = [] from rfl, HB.out, Option.getD_some]) | (refine wpList_store_row rfl 33 _ _ rfl w.heap.size Z rfl rfl 33 Z (heap_alloc_last _ _) HSz.out rfl HO.out ?_))
  refine bodyPost_ret (results_row_tmp rfl _ _ w.heap.size 33 Z (0, 0) _ _ rfl (setRow_heap _ _ _ _ _ _ (heap_alloc_last _ _)) Try.underlying33 rfl HSz.out rfl) rfl ⟨rfl, below_setRow ((Below.refl _ _).alloc (Nat.le_refl _) _) (Nat.le_refl _) _⟩
/-- 'c, ok := m[b]' of a map of copies -/
theorem wpList_lookC {w : World} {ops : Array Oper} {rest : List Oper} {o : Oper} {a : Act} {Q : Exit → Act → World → Prop} (hg : o.guard = none) (m x : Operand) (hop : o.op = Op.lookup 80 m x true) (B N : Nat) (l : List Cp) (hm : a.eval m = .map (some B)) (h : MapIs w copyK B N (pr l)) (i : Int) (hi : IntOk i) (hx : a.eval x = .int .i64 i)
    {c : Cp} {f : Bool} (hc : (findC l i).getD zeroC = c) (hf : (findC l i).isSome = f) (hK : wpList Try.prog ops Q rest (a.put o.dst (.tuple #[.agg (ccell c).toArray, .bool f])) w) : wpList Try.prog ops Q (o :: rest) a w := by
  subst hc hf
  refine wpList_mapLookOk hg m x _ hop 35 Try.underlying80 zeroC (zero40 _) zeroC_ok B N (pr l) hm h i hi hx ?_
  rw [look_pr, mem_pr]
  exact hK
theorem LSt.copy_ok {w : World} {B : Nat} {g : G4} {s : CS} {T : List Nat} {va : Value} {xs : List CV} (h : LSt w B g s T va xs) {k : Nat} {x : CV} (hx : xs[k]? = some x) (b : Int) : ((findC x.t.left b).getD zeroC).2.length = 256 := by
  have hk := (h.li.is x (List.mem_of_getElem? hx)).ok
  cases e : findC x.t.left b with
  | none => exact zeroC_ok
  | some c => exact (hk.cs c (hk.sub.subset (findC_mem e).1)).1.2
theorem LSt.at_all {w : World} {B : Nat} {g : G4} {s : CS} {T : List Nat} {va : Value} {xs : List CV} (h : LSt w B g s T va xs) {k : Nat} {x : CV} (hx : xs[k]? = some x) : s.all[k]? = some x.t := by rw [← h.all, List.getElem?_map, hx]; rfl
theorem zsize40 : (ccell zeroC).toArray.size = 257 := by rw [List.size_toArray, ccell_length zeroC_ok]
set_option maxRecDepth 100000 in
set_option maxHeartbeats 2000000 in
theorem get_ok {w : World} {B : Nat} {g : G4} {s : CS} {T : List Nat} {va : Value} {xs : List CV} (h : LSt w B g s T va xs) (b : Int) (hb : IntOk b) : Calls Try.prog 22 #[.pointer (some ⟨B, 0, none⟩), .int .i64 b] w fun e w' => e = .returned (.tuple #[.agg (bc (dataC (getC s.all b))).toArray, .bool (getC s.all b).isSome]) ∧ Grow w w' := by
  obtain ⟨a, cap, rfl⟩ := h.va
  have hall := h.all
  have hn := h.rowlen
  have hnb := h.li.len
  rw [hn] at hnb
  have hz := zero32
  have hz40 := zero40
  have hzs40 := zsize40
  have hs := zero_size
  have hbt := builtB
  have hzo : (bc zeroB).toArray.all (·.oneCell') = true := all_oneCell_toArray (bc_one _)
  have HSZ0 := Lib.hid (show (Try.prog.info? 33).map (·.size) = some (bc zeroB).toArray.size by rw [zero_size]; exact size32)
  have h0 := h.grow (Grow.alloc w (.cells (bc zeroB).toArray 33))
  generalize hZ : (bc zeroB).toArray = Z at *
  generalize hZC : (ccell zeroC).toArray = ZC at *
  have HZS := Lib.hid hzs40
  clear hZC hzs40
  have HS := Lib.hid hs
  have HB := Lib.hid hbt
  have HO := Lib.hid hzo
  have HZe := Lib.hid hZ
  have HALL := Lib.hid hall
  have c0 : (w.alloc (.cells Z 33)).cell? ⟨B, 0, none⟩ = some (.bool true) := cell_at h0.li.obj 0
  have c7 : (w.alloc (.cells Z 33)).cell? ⟨B, 7, none⟩ = some (.slice a s.all.length cap) := cell_at h0.li.obj 7
  have HI := Lib.hid (is_made c0)
  have HH := Lib.hid h0
  obtain ⟨n, hnn⟩ : ∃ n, n = s.all.length := ⟨_, rfl⟩
  rw [← hnn] at c7 hnb hn
  have HN := Lib.hid hn
  have HNN := Lib.hid hnn
  clear h h0 hZ hbt hzo hs hall hn hnn c0
  go_enter Try.func22, Try.ntmps22
  go_wp2_with fail
  refine HI.out.mono ?_
  rintro e w' ⟨rfl, rfl⟩
  go_wp2_with fail
  clear c7
  go_loopw [6] (fun t6 wr => ∃ k : Nat, t6 = .int .i64 ((k : Int) - 1) ∧ k ≤ n ∧ Hid (Grow (w.alloc (.cells Z 33)) wr ∧ getC (s.all.drop k) b = none)) (fun t6 _ => (intOf t6 + 1).toNat)
  case atStart => exact ⟨n, by go_num, by omega, Lib.hid ⟨Grow.refl _, by rw [HNN.out, List.drop_length]; rfl⟩⟩
  case round =>
    obtain ⟨k, rfl, hkn, HK⟩ := hrel
    have HZ1 := Lib.hid ((HK.out.1.block w.heap.size (by simp)).trans (heap_alloc_last w _))
    have HG1 := Lib.hid (Grow.trans (Grow.alloc w (.cells Z 33)) HK.out.1)
    have hlo : w.heap.size < wr.heap.size := by have := HK.out.1.size; simp at this; omega
    rcases k with _ | j
    · have HG0 := Lib.hid (show getC s.all b = none from HK.out.2)
      go_wp2_with (first | ((refine wpList_build rfl 33 _ rfl (by rw [show (((#[] : Array (Nat × Operand)).map fun (i, x) => (i, Act.eval _ x)).toList) = [] from rfl, HB.out]; rfl) ?_); rw [show (((#[] : Array (Nat × Operand)).map fun (i, x) => (i, Act.eval _ x)).toList) = [] from rfl, HB.out, Option.getD_some]) | (refine wpList_store_row rfl 33 _ _ rfl w.heap.size Z rfl rfl 33 Z HZ1.out (by rw [HS.out]; exact size32) rfl HO.out ?_))
      refine bodyPost_ret (results_row_tmp rfl _ _ w.heap.size 33 Z (0, 0) _ _ rfl (setRow_heap _ _ _ _ _ _ HZ1.out) Try.underlying33 rfl (by rw [HS.out]; exact size32) rfl) rfl ⟨by rw [HG0.out]; show _ = Ending.returned (.tuple #[.agg (bc zeroB).toArray, .bool false]); rw [HZe.out]; rfl, below_setRow HG1.out (Nat.le_refl _) _⟩
    · obtain ⟨x, hx⟩ : ∃ x, xs[j]? = some x := ⟨xs[j]'(by rw [HN.out]; omega), by simp⟩
      have hW := HH.out.grow HK.out.1
      obtain ⟨ga, oa, rfl, hr, q2, q3, q4⟩ := hW.li.elem hx
      have c7 : wr.cell? ⟨B, 7, none⟩ = some (.slice (some ⟨ga, oa, none⟩) n cap) := by rw [HNN.out]; exact cell_at hW.li.obj 7
      have HM := Lib.hid (hW.li.is x (List.mem_of_getElem? hx)).map
      have HM1 := Lib.hid (HM.out.kept (Touch.alloc [] wr (.cells ZC 35)) (by simp))
      have HL := Lib.hid (hW.copy_ok hx b)
      have HDR := Lib.hid (show getC (s.all.drop j) b = findC x.t.left b by rw [getC_drop (hW.at_all hx), HK.out.2]; rfl)
      obtain ⟨c, hc⟩ : ∃ c, (findC x.t.left b).getD zeroC = c := ⟨_, rfl⟩
      obtain ⟨f, hf⟩ : ∃ f, (findC x.t.left b).isSome = f := ⟨_, rfl⟩
      rw [hc] at HL
      have HC := Lib.hid hc
      have HF := Lib.hid hf
      have HX := Lib.hid hx
      have HSC := Lib.hid (csize HL.out)
      have HSE := Lib.hid (show ZC.size = (ccell c).toArray.size by rw [HZS.out, List.size_toArray, ccell_length HL.out])
      have HOC := Lib.hid (show (ccell c).toArray.all (·.oneCell') = true from all_oneCell_toArray (ccell_one c))
      have b0 : (0 : Int) ≤ (((j + 1 : Nat) : Int) - 1) := by omega
      have b1 : (((j + 1 : Nat) : Int) - 1) < (n : Int) := by omega
      have b2 : (((j + 1 : Nat) : Int) - 1).toNat = j := by omega
      have HBo := Lib.hid hb
      clear hx hr q2 q3 hW hc hf
      go_upto_region 7 with (first | (at_lookup; refine wpList_lookC rfl _ _ rfl x.m 600 x.t.left rfl HM.out b HBo.out rfl HC.out HF.out ?_) | (at_lookup; refine wpList_lookC rfl _ _ rfl x.m 600 x.t.left rfl HM1.out b HBo.out rfl HC.out HF.out ?_) | (refine wpList_store_row rfl 35 _ _ rfl wr.heap.size (ccell c).toArray rfl rfl 35 ZC (heap_alloc_last _ _) HSC.out HSE.out HOC.out ?_))
      have HN1 := Lib.hid (show ((wr.alloc (.cells ZC 35)).setRow wr.heap.size (ccell c).toArray).heap[wr.heap.size]? = some (.cells (ccell c).toArray 35) from setRow_heap _ _ _ _ _ _ (heap_alloc_last _ _))
      have HG2 := Lib.hid (show Grow wr ((wr.alloc (.cells ZC 35)).setRow wr.heap.size (ccell c).toArray) from below_setRow (Grow.alloc _ _) (Nat.le_refl _) _)
      generalize ((wr.alloc (.cells ZC 35)).setRow wr.heap.size (ccell c).toArray) = W2 at *
      clear c7 q4
      cases f with
      | false =>
        have HK2 := Lib.hid (show Grow (w.alloc (.cells Z 33)) W2 ∧ getC (s.all.drop j) b = none from ⟨HK.out.1.trans HG2.out, by rw [HDR.out]; exact Option.not_isSome_iff_eq_none.1 (by rw [HF.out]; simp)⟩)
        go_wp2_with fail
        go_roundw
        case rel => exact ⟨j, by go_num, by omega, HK2⟩
        case measure => simp [intOf]
      | true =>
        have HGA := Lib.hid (show getC s.all b = some c by
          obtain ⟨d, hd⟩ := Option.isSome_iff_exists.1 HF.out
          have h1 := HC.out
          rw [hd] at h1
          refine getC_upto s.all j b c ?_
          rw [HDR.out, hd]
          exact congrArg some h1)
        have HLb := Lib.hid HL.out
        have HSb := Lib.hid (show (Try.prog.info? 33).map (·.size) = some (bc c.2).length by rw [bc_length, HL.out]; exact size32)
        have HSb2 := Lib.hid (show (Try.prog.info? 33).map (·.size) = some (bc c.2).toArray.size by rw [List.size_toArray, bc_length, HL.out]; exact size32)
        have HOb := Lib.hid (show (bc c.2).toArray.all (·.oneCell') = true from all_oneCell_toArray (bc_one _))
        have HZb := Lib.hid (show Z.size = (bc c.2).toArray.size by rw [HS.out, List.size_toArray, bc_length, HL.out])
        have HRa := Lib.hid (show W2.rangeAt wr.heap.size 1 (bc c.2) from fun j v hj => by rw [cell_at HN1.out, List.getElem?_toArray]; show (ccell c)[1 + j]? = _; rw [Nat.add_comm]; exact hj)
        have HZ2 := Lib.hid ((HG2.out.block w.heap.size hlo).trans HZ1.out)
        go_wp2_with (first | (refine wpList_load_mid rfl 33 _ rfl wr.heap.size 1 rfl (bc c.2) _ HRa.out Try.underlying33 rfl HSb.out ?_) | (refine wpList_store_row rfl 33 _ _ rfl w.heap.size (bc c.2).toArray rfl rfl 33 Z HZ2.out HSb2.out HZb.out HOb.out ?_))
        refine bodyPost_ret (results_row_tmp rfl _ _ w.heap.size 33 (bc c.2).toArray (0, 0) _ _ rfl (setRow_heap _ _ _ _ _ _ HZ2.out) Try.underlying33 rfl HSb2.out rfl) rfl ⟨by rw [HGA.out]; rfl, below_setRow (Grow.trans HG1.out HG2.out) (Nat.le_refl _) _⟩
#print axioms get_ok
end Go.Proofs.Ytokehhegomiciaa
