/- quernref19.Writes: the walk. -/
import Derived.Test.YtlhhbkpocpnebaaP33
import Derived.Test.YtlhhbkpocpnebaaP26
import Derived.Test.YtlhhbkpocpnebaaP6
import Derived.Test.YtlhhbkpocpnebaaP15
set_option linter.unusedVariables false
set_option linter.unusedSimpArgs false
namespace Go.Proofs.Ytlhhbkpocpnebaa
open Go.RowKit Go.Maps

def ROvA (W : World) (L : List PT) : Value → World → Prop := fun v w => ∃ zs, Rising (HasM (ov L)) zs ∧ CRow w v (outL (ov L) zs) ∧ ∀ g, v.ownBlock = some g → W.heap.size ≤ g
theorem rov_stab (W : World) (L : List PT) : Stab (Touch []) (ROvA W L) := fun v w w' ht ⟨zs, h1, h2, h3⟩ => ⟨zs, h1, h2.grow (ht.below (Nat.le_refl _) (by simp)), h3⟩
def OneC (W : World) (C : Array Value) : Value → World → Prop := fun v w => ∃ g, v = .slice (some ⟨g, 0, none⟩) 1 1 ∧ w.heap[g]? = some (.cells C 40)
theorem onec_stab (W : World) (C : Array Value) : Stab (Touch []) (OneC W C) := fun v w w' ht ⟨g, h1, h2⟩ => ⟨g, h1, (ht.block g (Array.getElem?_eq_some_iff.1 h2).1 (by simp)).trans h2⟩
set_option maxRecDepth 100000 in
set_option maxHeartbeats 8000000 in
theorem writes_ok {w : World} {v : Value} {xs : List TV} {L : List PT} (h : TRow w v xs) (hts : xs.map (·.t) = L) (hl : xs.length ≤ 10000) (hc : copyN L ≤ 100000) (s : Nat) (h1 : 1 ≤ s) (h2 : s ≤ 2147483648) :
    Calls Try.prog 29 #[v, .int .u32 (s : Int)] w fun e w' => ∃ v' zs, e = .returned v' ∧ Rising (HasM (ov L)) zs ∧ CRow w' v' (outL (ov L) zs ++ [(2, beginB 4 s 0)]) ∧ Grow w w' := by
  have HOV0 := Lib.hid (show ∀ w', Grow w w' → Calls Try.prog 13 #[v] w' (OverlayPost (ov L) w') from fun w' hg => roverlay_ok (h.grow hg) hts hl hc)
  have HCL := Lib.hid (show ∀ zs, Rising (HasM (ov L)) zs → (outL (ov L) zs).length ≤ 100000 from fun zs hr => by
    unfold outL
    rw [List.length_map]
    refine Nat.le_trans (nodup_sub zs (allB L) hr.nodup (fun z hz => ?_)) (by rw [allB_length]; exact hc)
    exact Classical.byContradiction fun hn => by have h1 := (hr.mem z).1 hz; unfold HasM at h1; rw [ov_copied L z hn] at h1; cases h1)
  obtain ⟨a, cap, hv⟩ := h.len
  obtain ⟨n, hn⟩ : ∃ n, n = xs.length := ⟨_, rfl⟩
  rw [← hn] at hv
  subst hv
  have HHD := Lib.hid (rhead_ok s h1 h2)
  have hz := zero32
  have HZS := Lib.hid zero_size
  obtain ⟨Z, hZ⟩ : ∃ Z, Z = (bc zeroB).toArray := ⟨_, rfl⟩
  rw [← hZ] at hz HZS
  obtain ⟨hb, hhb⟩ : ∃ hb, hb = beginB 4 s 0 := ⟨_, rfl⟩
  rw [← hhb] at HHD ⊢
  have HBL := Lib.hid (show hb.length = 256 by rw [hhb]; exact beginB_length 4 s 0)
  obtain ⟨X, hX⟩ : ∃ X, X = (bc hb).toArray := ⟨_, rfl⟩
  obtain ⟨C, hC⟩ : ∃ C, C = (ccell (2, hb)).toArray := ⟨_, rfl⟩
  rw [← hX] at HHD
  have HXZ := Lib.hid (show X.size = 256 by rw [hX, List.size_toArray, bc_length, HBL.out])
  have HXS := Lib.hid (show (Try.prog.info? 29).map (·.size) = some X.size by rw [HXZ.out]; exact size32)
  have HX1 := Lib.hid (show X.all (·.oneCell') = true by rw [hX]; exact all_oneCell_toArray (bc_one _))
  have HBC := Lib.hid (show Try.prog.built 40 [(0, .int .i64 2), (1, .agg X)] = some C by rw [hX, hC]; exact built_copy 2 hb HBL.out)
  have HMK := Lib.hid (show ∀ w, (Instr.buildSlice 33 1 #[(0, .agg C)]).run Try.prog w = .ok (.slice (some ⟨w.heap.size, 0, none⟩) 1 1) (w.alloc (.cells C 40)) from fun w => by rw [hC]; exact buildSlice_copy (2, hb) HBL.out w)
  have HCE := Lib.hid hC
  obtain ⟨ic, hic, hz0, hz1, hz2⟩ := info_parts info40
  have HIC := Lib.hid hic
  clear h hts hl hc h1 h2 hn hZ hhb hX hC hic
  go_enter Try.func29, Try.ntmps29
  go_wp2_with fail
  refine (HHD.out _).mono ?_
  intro e w1 hpost
  obtain ⟨he, hg⟩ := hpost
  subst he
  have HG1 := Lib.hid hg
  clear hg HHD
  go_upto_region 2 with (refine wpList_store_row rfl _ _ _ rfl w1.heap.size X rfl rfl 29 Z (heap_alloc_last _ _) HXS.out (by rw [HXZ.out]; exact HZS.out) HX1.out ?_)
  have HH := Lib.hid (setRow_heap _ _ _ _ _ _ (heap_alloc_last w1 (.cells Z 29)) : ((w1.alloc (.cells Z 29)).setRow w1.heap.size X).heap[w1.heap.size]? = some (.cells X 29))
  have HG2 := Lib.hid (show Grow w ((w1.alloc (.cells Z 29)).setRow w1.heap.size X) from Grow.trans HG1.out (below_setRow ((Below.refl _ _).alloc (Nat.le_refl _) _) (Nat.le_refl _) _))
  generalize (w1.alloc (.cells Z 29)).setRow w1.heap.size X = w2 at *
  obtain ⟨PH, hPH⟩ : ∃ P, P = w1.heap.size := ⟨_, rfl⟩
  rw [← hPH] at HH ⊢
  have HOV := Lib.hid (show ∀ w', Grow w2 w' → Calls Try.prog 13 #[.slice a n cap] w' (OverlayPost (ov L) w') from fun w' hg => HOV0.out w' (Grow.trans HG2.out hg))
  clear hPH hz
  refine wp_region_facts_tail 5 (by kernel_rfl) (by kernel_rfl) [[], [(0, some 13)], [], [(2, some 15)], [(3, some 16)]] [(0, some 13), (1, some 14), (2, some 15), (3, some 16), (4, some 17)] (by kernel_rfl) (by kernel_rfl) (by kernel_rfl) (Touch []) (Touch.refl []) (fun _ _ _ h h' => h.trans h' (fun i hi => .inl hi)) [Is (Value.slice a n cap), ROvA w2 L, Is (Value.agg X), Is (Value.agg C), OneC w2 C] rfl ⟨is_stab _ _, rov_stab _ _, is_stab _ _, is_stab _ _, onec_stab _ _, trivial⟩ ⟨?o0, ?o1, ?o2, ?o3, ?o4, trivial⟩ ?_
  case o0 =>
    intro vals wq hRq hpq
    simp only [List.getD_cons_zero, List.getD_cons_succ, canonP]
    simp only [Oper.gives]
    go_simp
    exact ⟨is_mk _ _, (Touch.refl []) _⟩
  case o1 =>
    intro vals wq hRq hpq
    simp only [factsP, List.getD_cons_zero, List.getD_cons_succ] at hpq
    have f0 := hpq.1
    replace hpq := hpq.2
    clear hpq
    replace f0 : vals 0 = _ := f0
    simp only [List.getD_cons_zero, List.getD_cons_succ, canonP, f0]
    clear f0
    simp only [Oper.gives]
    go_simp
    exact (HOV.out wq (((Touch.drew [] w2).trans hRq (by simp)).below (Nat.le_refl _) (by simp))).mono fun e w' ⟨v, zs, he, hr, hc, hg, hlo⟩ => ⟨_, he, ⟨zs, hr, hc, fun g e => Nat.le_trans ((((Touch.drew [] w2).trans hRq (by simp)).below (Nat.le_refl _) (by simp))).size (hlo g e)⟩, Touch.of_below hg⟩
  case o2 =>
    intro vals wq hRq hpq
    simp only [List.getD_cons_zero, List.getD_cons_succ, canonP]
    have hbx : wq.heap[PH]? = some (.cells X 29) := (hRq.block PH (by simpa using (Array.getElem?_eq_some_iff.1 HH.out).1) (by simp)).trans HH.out
    rw [if_pos (by rfl)]
    exact gives_load_row 29 _ rfl PH rfl 29 X (0, 0) _ hbx Try.underlying29 rfl HXS.out ⟨is_mk _ _, Touch.refl _ _⟩
  case o3 =>
    intro vals wq hRq hpq
    simp only [factsP, List.getD_cons_zero, List.getD_cons_succ] at hpq
    have f2 := hpq.1
    replace hpq := hpq.2
    clear hpq
    replace f2 : vals 2 = _ := f2
    simp only [List.getD_cons_zero, List.getD_cons_succ, canonP, f2]
    clear f2
    rw [if_pos (by rfl)]
    exact gives_build 40 _ rfl C (by simp only [List.map_toArray, List.map_cons, List.map_nil]; exact HBC.out) ⟨is_mk _ _, Touch.refl _ _⟩
  case o4 =>
    intro vals wq hRq hpq
    simp only [factsP, List.getD_cons_zero, List.getD_cons_succ] at hpq
    have f3 := hpq.1
    replace hpq := hpq.2
    clear hpq
    replace f3 : vals 3 = _ := f3
    simp only [List.getD_cons_zero, List.getD_cons_succ, canonP, f3]
    clear f3
    have hsz : w2.heap.size ≤ wq.heap.size := hRq.size
    rw [if_pos (by rfl)]
    exact gives_buildSlice 33 1 _ rfl (v := .slice (some ⟨wq.heap.size, 0, none⟩) 1 1) (w' := wq.alloc (.cells C 40)) (by simp only [List.map_toArray, List.map_cons, List.map_nil]; exact HMK.out wq) ⟨⟨wq.heap.size, rfl, heap_alloc_last _ _⟩, Touch.alloc _ _ _⟩
  intro vals w3 hRw3 hfw3
  simp only [AllFacts] at hfw3
  have g0 := hfw3.1
  replace hfw3 := hfw3.2
  have g1 := hfw3.1
  replace hfw3 := hfw3.2
  have g2 := hfw3.1
  replace hfw3 := hfw3.2
  have g3 := hfw3.1
  replace hfw3 := hfw3.2
  have g4 := hfw3.1
  replace hfw3 := hfw3.2
  clear hfw3
  replace g0 : vals 0 = _ := g0
  replace g2 : vals 2 = _ := g2
  replace g3 : vals 3 = _ := g3
  simp only [List.drop_succ_cons, List.drop_zero]
  simp only [canonP, Act.put, List.setIfInBounds_toArray, List.set_cons_succ, List.set_cons_zero, g0, g2, g3]
  clear g0 g2 g3
  have hg3 : Grow w2 w3 := ((Touch.drew [] w2).trans hRw3 (by simp)).below (Nat.le_refl _) (by simp)
  obtain ⟨zs, hr, hcr, hlo⟩ := g1
  obtain ⟨gb, hgb, hhb⟩ := g4
  generalize vals 1 = v1 at *
  generalize vals 4 = v4 at *
  subst hgb
  obtain ⟨a1, n1, c1, rfl⟩ := rowSlice hcr
  have HR := Lib.hid hr
  have HCR := Lib.hid hcr
  have HLO := Lib.hid hlo
  have HNW := Lib.hid (show ∀ j u, (ccell (2, hb))[j]? = some u → w3.cell? ((⟨gb, 0, none⟩ : Addr).add j) = some u from cells_add (by rw [← HCE.out]; exact hhb))
  have HG3 := Lib.hid (Grow.trans HG2.out hg3)
  have HL3 := Lib.hid (HCL.out zs hr)
  have HCC := Lib.hid (ccell_length (c := (2, hb)) HBL.out)
  have HG23 := Lib.hid hg3
  clear hr hcr hlo hhb hRw3 hg3
  go_wp2_with (at_builtin; refine wpList_append_row rfl (.tmp 14) (.tmp 17) 33 rfl 40 ic (.agg (ccell zeroC).toArray) 257 264 Try.underlying33 HIC.out hz0 hz1 hz2 (by show (ccell zeroC).toArray.size = 257; rw [List.size_toArray, ccell_length zeroC_ok]) (by omega) (.slice a1 n1 c1) ((outL (ov L) zs).map ccell) rfl HCR.out ⟨gb, 0, none⟩ 1 (ccell (2, hb)) rfl HCC.out HNW.out (ccell_one _) (by rw [List.length_map]; have := HL3.out; omega) (by omega) ?_; intro v' wa happ htch)
  have HGF := Lib.hid (show Grow w wa from Below.trans HG3.out (htch.below HG3.out.size (fun k hk => Nat.le_trans HG2.out.size (HLO.out k (ownL_mem.1 hk)))))
  have HRF := Lib.hid (show CRow wa v' (outL (ov L) zs ++ [(2, hb)]) by unfold CRow; rw [List.map_append]; exact happ.1)
  clear happ htch
  go_ret
  exact ⟨_, zs, rfl, HR.out, HRF.out, HGF.out⟩
#print axioms writes_ok
end Go.Proofs.Ytlhhbkpocpnebaa
/- replay.Do at a disk with a power: the plain side. -/
set_option linter.unusedVariables false
set_option linter.unusedSimpArgs false
namespace Go.Proofs.Ytlhhbkpocpnebaa
open Go.RowKit Go.Maps

def zerosL (N : Nat) : List Blk := List.replicate N zeroB
def wsOf (cs : List Cp) : List (Nat × Blk) := cs.map fun c => (c.1.toNat, c.2)
/-- a new disk with a power -/
def newP (N : Nat) (p : Int) : DS := { safe := zerosL N, last := zerosL N, ws := [], acts := 0, set := decide (0 ≤ p), left := if 0 ≤ p then p else 0 }
/-- so many copies are written to it -/
def stW (N : Nat) (p : Int) (cs : List Cp) : DS := { safe := zerosL N, last := applyW (zerosL N) (wsOf cs), ws := wsOf cs, acts := (cs.length : Int), set := decide (0 ≤ p), left := if 0 ≤ p then p - (cs.length : Int) else 0 }
theorem stW_nil (N : Nat) (p : Int) : stW N p [] = newP N p := by unfold stW newP wsOf applyW; simp
theorem stW_next (N : Nat) (p : Int) (cs : List Cp) (c : Cp) : (stW N p cs).wrote c.1.toNat c.2 = stW N p (cs ++ [c]) := by
  unfold stW DS.wrote DS.acted
  have h1 : wsOf (cs ++ [c]) = wsOf cs ++ [(c.1.toNat, c.2)] := by unfold wsOf; rw [List.map_append]; rfl
  rw [h1, applyW_snoc]
  simp only [List.length_append, List.length_cons, List.length_nil, DS.mk.injEq, true_and]
  refine ⟨by omega, ?_⟩
  by_cases h : 0 ≤ p
  · simp only [h, decide_true, if_true]; omega
  · simp only [h, decide_false, if_false]; simp
/-- behind so many acts -/
def stK (N : Nat) (p : Int) (cs : List Cp) (hb : Blk) (k : Nat) : DS :=
  if k ≤ cs.length then stW N p (cs.take k) else if k = cs.length + 1 then (stW N p cs).flushed else if k = cs.length + 2 then (stW N p cs).flushed.wrote 2 hb else ((stW N p cs).flushed.wrote 2 hb).flushed
/-- how many acts are done -/
def doneK (p : Int) (cs : List Cp) : Nat := if p < 0 ∨ (cs.length : Int) + 3 ≤ p then cs.length + 3 else p.toNat
theorem stW_len (N : Nat) (p : Int) (cs : List Cp) : (stW N p cs).safe.length = N := by unfold stW zerosL; simp
theorem stW_dead (N : Nat) (p : Int) (cs : List Cp) : (stW N p cs).dead = decide (0 ≤ p ∧ p = (cs.length : Int)) := by
  unfold stW DS.dead
  by_cases h : 0 ≤ p
  · simp only [h, decide_true, if_true, true_and, Bool.true_and]
    by_cases e : p = (cs.length : Int)
    · simp [e]
    · rw [decide_eq_false e]
      simp
      omega
  · simp [h]
/-- what Do leaves, and what it answers -/
structure DoRes (N : Nat) (p : Int) (cs : List Cp) (hb : Blk) (f : Int) (d : DS) : Prop where
  st : d = stK N p cs hb (doneK p cs)
  is : f = if doneK p cs = cs.length + 3 then 0 else 30
theorem DoRes.early {N : Nat} {p : Int} {cs : List Cp} {hb : Blk} {k : Nat} (hk : k ≤ cs.length) (hp : 0 ≤ p ∧ p = (k : Int)) : DoRes N p cs hb 30 (stW N p (cs.take k)) := by
  have hd : doneK p cs = k := by unfold doneK; rw [if_neg (by omega)]; omega
  exact ⟨by rw [hd]; unfold stK; rw [if_pos hk], by rw [hd, if_neg (by omega)]⟩
theorem DoRes.first {N : Nat} {p : Int} {cs : List Cp} {hb : Blk} (hp : 0 ≤ p ∧ p = (cs.length : Int) + 1) : DoRes N p cs hb 30 (stW N p cs).flushed := by
  have hd : doneK p cs = cs.length + 1 := by unfold doneK; rw [if_neg (by omega)]; omega
  exact ⟨by rw [hd]; unfold stK; rw [if_neg (by omega), if_pos rfl], by rw [hd, if_neg (by omega)]⟩
theorem DoRes.second {N : Nat} {p : Int} {cs : List Cp} {hb : Blk} (hp : 0 ≤ p ∧ p = (cs.length : Int) + 2) : DoRes N p cs hb 30 ((stW N p cs).flushed.wrote 2 hb) := by
  have hd : doneK p cs = cs.length + 2 := by unfold doneK; rw [if_neg (by omega)]; omega
  exact ⟨by rw [hd]; unfold stK; rw [if_neg (by omega), if_neg (by omega), if_pos rfl], by rw [hd, if_neg (by omega)]⟩
theorem DoRes.all {N : Nat} {p : Int} {cs : List Cp} {hb : Blk} (hp : p < 0 ∨ (cs.length : Int) + 3 ≤ p) : DoRes N p cs hb 0 ((stW N p cs).flushed.wrote 2 hb).flushed := by
  have hd : doneK p cs = cs.length + 3 := by unfold doneK; rw [if_pos hp]
  exact ⟨by rw [hd]; unfold stK; rw [if_neg (by omega), if_neg (by omega), if_neg (by omega)], by rw [hd, if_pos rfl]⟩
theorem fl_facts (N : Nat) (p : Int) (cs : List Cp) : (stW N p cs).flushed.safe.length = N ∧ (stW N p cs).flushed.ws = [] ∧ (stW N p cs).flushed.acts = (cs.length : Int) + 1 ∧ (stW N p cs).flushed.left = (if 0 ≤ p then p - (cs.length : Int) - 1 else 0) ∧ (stW N p cs).flushed.dead = decide (0 ≤ p ∧ p = (cs.length : Int) + 1) := by
  have hl : (stW N p cs).flushed.left = if 0 ≤ p then p - (cs.length : Int) - 1 else 0 := by
    show (if (stW N p cs).set = true then (stW N p cs).left - 1 else (stW N p cs).left) = _
    unfold stW
    by_cases h : 0 ≤ p <;> simp [h]
  refine ⟨(DS.flushed_len _).1.trans (stW_len N p cs), rfl, rfl, hl, ?_⟩
  unfold DS.dead
  rw [hl]
  show (decide (0 ≤ p) && _) = _
  by_cases h : 0 ≤ p
  · simp only [h, decide_true, if_true, true_and, Bool.true_and]
    by_cases e : p = (cs.length : Int) + 1
    · rw [decide_eq_true e]; simp; omega
    · rw [decide_eq_false e]; simp; omega
  · simp [h]
theorem wr_facts (N : Nat) (p : Int) (cs : List Cp) (hb : Blk) : ((stW N p cs).flushed.wrote 2 hb).safe.length = N ∧ ((stW N p cs).flushed.wrote 2 hb).ws = [(2, hb)] ∧ ((stW N p cs).flushed.wrote 2 hb).acts = (cs.length : Int) + 2 ∧ ((stW N p cs).flushed.wrote 2 hb).left = (if 0 ≤ p then p - (cs.length : Int) - 2 else 0) ∧ ((stW N p cs).flushed.wrote 2 hb).dead = decide (0 ≤ p ∧ p = (cs.length : Int) + 2) := by
  obtain ⟨f1, f2, f3, f4, _⟩ := fl_facts N p cs
  have hl : ((stW N p cs).flushed.wrote 2 hb).left = if 0 ≤ p then p - (cs.length : Int) - 2 else 0 := by
    show (if (stW N p cs).flushed.set = true then (stW N p cs).flushed.left - 1 else (stW N p cs).flushed.left) = _
    rw [f4]
    show (if decide (0 ≤ p) = true then _ else _) = _
    by_cases h : 0 ≤ p
    · simp only [h, decide_true, if_true]; omega
    · simp [h]
  refine ⟨(DS.wrote_len _ _ _).1.trans f1, by rw [(DS.wrote_len _ _ _).2.1, f2]; rfl, ?_, hl, ?_⟩
  · show (stW N p cs).flushed.acts + 1 = _
    rw [f3]; omega
  unfold DS.dead
  rw [hl]
  show (decide (0 ≤ p) && _) = _
  by_cases h : 0 ≤ p
  · simp only [h, decide_true, if_true, true_and, Bool.true_and]
    by_cases e : p = (cs.length : Int) + 2
    · rw [decide_eq_true e]; simp; omega
    · rw [decide_eq_false e]; simp; omega
  · simp [h]
theorem flush_dead {w : World} {B : Nat} {S : List Nat} {d : DS} (h : IsDisk w B S d) (hd : d.dead = true) : Calls Try.prog 44 #[.pointer (some ⟨B, 0, none⟩)] w fun e w' => e = .returned (.int .i64 30) ∧ w' = w := by
  have HR := Lib.hid (refuse_dead h hd)
  clear h
  go_enter Try.func44, Try.ntmps44
  go_wp2_with fail
  refine HR.out.mono ?_
  rintro e w' ⟨rfl, rfl⟩
  go_wp2_with fail
  go_ret
  exact ⟨rfl, rfl⟩
#print axioms flush_dead
end Go.Proofs.Ytlhhbkpocpnebaa
