/- The things that a machine does: the closures. -/
import Derived.Test.YtieknecbheeekaaK7
set_option linter.unusedVariables false
set_option linter.unusedSimpArgs false
namespace Go.Proofs.Ytieknecbheeekaa
open Go.RowKit Go.Maps

/-- what an action answers, and what it leaves -/
def CS.act (s : CS) (p : AT) : Int × CS :=
  if p.k = 1 then (s.bk p.b, s.bkS p.b)
  else if p.k = 2 then (s.d.why p.b, { s with d := s.d.tried p.b p.x })
  else if p.k = 3 then (if s.d.dead then (30, s) else (0, { s with d := s.d.flushed }))
  else (2, s)
/-- behind an action -/
def ActPost (C B : Nat) (U : List Nat) (n : Nat) (s : CS) (p : AT) (w : World) (e : Ending) (w' : World) : Prop :=
  e = .returned (.int .i64 (s.act p).1) ∧ ∃ U', IsCache w' C B U' (n + 1) (s.act p).2 ∧ Touch U w w' ∧ ∀ k ∈ U', k ∈ U ∨ w.heap.size ≤ k
structure Lim (s : CS) : Prop where
  ws : s.d.ws.length ≤ 100000
  acts : 0 ≤ s.d.acts ∧ s.d.acts ≤ 1000000
  left : 0 ≤ s.d.left ∧ s.d.left ≤ 9223372036854775807
  wlt : ∀ q ∈ s.d.ws, q.1 < s.d.safe.length
/-- the disk below a cache turns -/
theorem IsCache.diskTo {w w' : World} {C B : Nat} {n : Nat} {s : CS} {bm bp : Nat} {S S' : List Nat} (h : CParts w C bm bp B S n s) {d' : DS} (hd : IsDisk w' B S' d') (ht : Touch S w w') (hs : ∀ k ∈ S', k ∈ S ∨ w.heap.size ≤ k) (hl : d'.safe.length = s.d.safe.length) : IsCache w' C B (C :: bm :: bp :: S') n { s with d := d' } := by
  have hlt := h.lt
  refine ⟨bm, bp, S', rfl, ?_⟩
  obtain ⟨D, hD1, hD2⟩ := h.has
  obtain ⟨E, hE1, hE2⟩ := h.pin
  exact {
    obj := (ht.block C hlt.1 h.cS).trans h.obj
    disk := hd
    has := ⟨D, ownsMap_touch hD1 ht h.mS, by show HMap d'.safe.length D s.f; rw [hl]; exact hD2⟩
    pin := ⟨E, ownsMap_touch hE1 ht h.pS, hE2⟩
    cS := fun hm => by rcases hs C hm with h1 | h1; exact h.cS h1; omega
    mS := fun hm => by rcases hs bm hm with h1 | h1; exact h.mS h1; omega
    pS := fun hm => by rcases hs bp hm with h1 | h1; exact h.pS h1; omega
    mp := h.mp }
theorem tried_len (d : DS) (b : Int) (x : Blk) : (d.tried b x).safe.length = d.safe.length := by unfold DS.tried; split <;> rfl
theorem flushed_len (d : DS) : d.flushed.safe.length = d.safe.length := applyW_length _ _
set_option maxRecDepth 100000 in
set_option maxHeartbeats 4000000 in
theorem ready1_ok {w : World} {C B : Nat} {U : List Nat} {n : Nat} {s : CS} (h : IsCache w C B U n s) (hn : n ≤ 1000000) (hl : Lim s) {M bM bA : Nat} {p : AT} (hb : w.heap[bM]? = some (.cells #[.pointer (some ⟨M, 0, none⟩)] 48)) (hm : w.cell? ⟨M, 0, none⟩ = some (.pointer (some ⟨C, 0, none⟩)))
    (ha : w.heap[bA]? = some (.cells (ac p).toArray 53)) :
    Calls Try.prog 38 #[.pointer (some ⟨bM, 0, none⟩), .pointer (some ⟨bA, 0, none⟩)] w (BkPost C B U n s p.b w) := by
  have HC := Lib.hid h
  have HB0 := Lib.hid (show bM < w.heap.size ∧ w.cell? ⟨bM, 0, none⟩ = some (.pointer (some ⟨M, 0, none⟩)) from ⟨(Array.getElem?_eq_some_iff.1 hb).1, cell_at hb 0⟩)
  have HM0 := Lib.hid (show M < w.heap.size ∧ w.cell? ⟨M, 0, none⟩ = some (.pointer (some ⟨C, 0, none⟩)) from ⟨World.block_lt_of_cell? w _ hm, hm⟩)
  have HA1 := Lib.hid (show bA < w.heap.size ∧ w.cell? ⟨bA, 1, none⟩ = some (.int .i64 p.b) from ⟨(Array.getElem?_eq_some_iff.1 ha).1, cell_at ha 1⟩)
  have HBK := Lib.hid (fun wq (ht : Touch [] w wq) => cback_full (h.kept ht (by simp)) hn p.b hl.ws hl.acts hl.left)
  clear h hb hm ha hl
  go_enter Try.func38, Try.ntmps38
  go_upto_region 1 with (fail)
  refine wp_region_facts_tail 6 (by kernel_rfl) (by kernel_rfl) [[], [(0, some 3)], [(1, some 4)], [(2, some 5)], [], [(4, some 7)]] [(0, some 3), (1, some 4), (2, some 5), (3, some 6), (4, some 7), (5, some 8)] (by kernel_rfl) (by kernel_rfl) (by kernel_rfl) (Touch []) (Touch.refl []) (fun _ _ _ h h' => h.trans h' (fun i hi => .inl hi)) [Is (Value.pointer (some ⟨M, 0, none⟩)), Is (Value.pointer (some ⟨M, 0, none⟩)), Is (Value.pointer (some ⟨M, 0, none⟩)), Is (Value.pointer (some ⟨C, 0, none⟩)), Is (Value.pointer (some ⟨bA, 1, none⟩)), Is (Value.int .i64 p.b)] rfl ⟨is_stab _ _, is_stab _ _, is_stab _ _, is_stab _ _, is_stab _ _, is_stab _ _, trivial⟩ ⟨?o0, ?o1, ?o2, ?o3, ?o4, ?o5, trivial⟩ ?_
  case o0 =>
    intro vals wq hRq hpq
    simp only [List.getD_cons_zero, List.getD_cons_succ, canonP]
    have hcc : wq.cell? ⟨bM, 0, none⟩ = some (.pointer (some ⟨M, 0, none⟩)) := (Touch.cell ((Touch.drew [] _).trans hRq (by simp)) (a := ⟨bM, 0, none⟩) HB0.out.1 (by simp)).trans HB0.out.2
    simp only [Oper.gives]
    go_simp
    exact ⟨is_mk _ _, Touch.refl _ _⟩
  case o1 =>
    intro vals wq hRq hpq
    simp only [factsP, List.getD_cons_zero, List.getD_cons_succ] at hpq
    have f0 := hpq.1
    replace hpq := hpq.2
    clear hpq
    replace f0 : vals 0 = _ := f0
    simp only [List.getD_cons_zero, List.getD_cons_succ, canonP, f0]
    clear f0
    simp only [Oper.gives]
    go_simp
    exact ⟨is_mk _ _, Touch.refl _ _⟩
  case o2 =>
    intro vals wq hRq hpq
    simp only [factsP, List.getD_cons_zero, List.getD_cons_succ] at hpq
    have f1 := hpq.1
    replace hpq := hpq.2
    clear hpq
    replace f1 : vals 1 = _ := f1
    simp only [List.getD_cons_zero, List.getD_cons_succ, canonP, f1]
    clear f1
    simp only [Oper.gives]
    go_simp
    exact ⟨is_mk _ _, (Touch.refl []) _⟩
  case o3 =>
    intro vals wq hRq hpq
    simp only [factsP, List.getD_cons_zero, List.getD_cons_succ] at hpq
    have f2 := hpq.1
    replace hpq := hpq.2
    clear hpq
    replace f2 : vals 2 = _ := f2
    simp only [List.getD_cons_zero, List.getD_cons_succ, canonP, f2]
    clear f2
    have hcc : wq.cell? ⟨M, 0, none⟩ = some (.pointer (some ⟨C, 0, none⟩)) := (Touch.cell ((Touch.drew [] _).trans hRq (by simp)) (a := ⟨M, 0, none⟩) HM0.out.1 (by simp)).trans HM0.out.2
    simp only [Oper.gives]
    go_simp
    exact ⟨is_mk _ _, Touch.refl _ _⟩
  case o4 =>
    intro vals wq hRq hpq
    simp only [List.getD_cons_zero, List.getD_cons_succ, canonP]
    simp only [Oper.gives]
    go_simp
    exact ⟨is_mk _ _, (Touch.refl []) _⟩
  case o5 =>
    intro vals wq hRq hpq
    simp only [factsP, List.getD_cons_zero, List.getD_cons_succ] at hpq
    have f4 := hpq.1
    replace hpq := hpq.2
    clear hpq
    replace f4 : vals 4 = _ := f4
    simp only [List.getD_cons_zero, List.getD_cons_succ, canonP, f4]
    clear f4
    have hcc : wq.cell? ⟨bA, 1, none⟩ = some (.int .i64 p.b) := (Touch.cell ((Touch.drew [] _).trans hRq (by simp)) (a := ⟨bA, 1, none⟩) HA1.out.1 (by simp)).trans HA1.out.2
    simp only [Oper.gives]
    go_simp
    exact ⟨is_mk _ _, Touch.refl _ _⟩
  intro vals wz hRwz hfwz
  simp only [AllFacts] at hfwz
  have g0 := hfwz.1
  replace hfwz := hfwz.2
  have g1 := hfwz.1
  replace hfwz := hfwz.2
  have g2 := hfwz.1
  replace hfwz := hfwz.2
  have g3 := hfwz.1
  replace hfwz := hfwz.2
  have g4 := hfwz.1
  replace hfwz := hfwz.2
  have g5 := hfwz.1
  replace hfwz := hfwz.2
  clear hfwz
  replace g0 : vals 0 = _ := g0
  replace g1 : vals 1 = _ := g1
  replace g2 : vals 2 = _ := g2
  replace g3 : vals 3 = _ := g3
  replace g4 : vals 4 = _ := g4
  replace g5 : vals 5 = _ := g5
  simp only [List.drop_succ_cons, List.drop_zero]
  simp only [canonP, Act.put, List.setIfInBounds_toArray, List.set_cons_succ, List.set_cons_zero, g0, g1, g2, g3, g4, g5]
  clear g0 g1 g2 g3 g4 g5
  have HTW := Lib.hid ((Touch.drew [] w).trans hRwz (by simp))
  clear hRwz
  go_wp2_with fail
  refine (HBK.out _ HTW.out).mono ?_
  intro e w' hpost
  obtain ⟨he, U', h1, h2, h3⟩ := hpost
  subst he
  have HF := Lib.hid (show ∃ U', IsCache w' C B U' (n + 1) (s.bkS p.b) ∧ Touch U w w' ∧ ∀ k ∈ U', k ∈ U ∨ w.heap.size ≤ k from ⟨U', h1, (HTW.out.mono (by simp)).trans h2 (fun k hk => .inl hk), fun k hk => (h3 k hk).imp id (Nat.le_trans HTW.out.size)⟩)
  clear h1 h2 h3
  go_wp2_with fail
  go_ret
  exact ⟨rfl, HF.out⟩
#print axioms ready1_ok
set_option maxRecDepth 100000 in
set_option maxHeartbeats 4000000 in
theorem ready2_ok {w : World} {C B : Nat} {U : List Nat} {n : Nat} {s : CS} (h : IsCache w C B U n s) (hl : Lim s) {M bM bA : Nat} {p : AT} (hx : p.x.length = 256) (hb : w.heap[bM]? = some (.cells #[.pointer (some ⟨M, 0, none⟩)] 48)) (hm : w.cell? ⟨M, 0, none⟩ = some (.pointer (some ⟨C, 0, none⟩)))
    (ha : w.heap[bA]? = some (.cells (ac p).toArray 53)) :
    Calls Try.prog 40 #[.pointer (some ⟨bM, 0, none⟩), .pointer (some ⟨bA, 0, none⟩)] w fun e w' => e = .returned (.int .i64 (s.d.why p.b)) ∧ ∃ U', IsCache w' C B U' (n + 1) { s with d := s.d.tried p.b p.x } ∧ Touch U w w' ∧ ∀ k ∈ U', k ∈ U ∨ w.heap.size ≤ k := by
  have HC := Lib.hid h
  have HB0 := Lib.hid (show bM < w.heap.size ∧ w.cell? ⟨bM, 0, none⟩ = some (.pointer (some ⟨M, 0, none⟩)) from ⟨(Array.getElem?_eq_some_iff.1 hb).1, cell_at hb 0⟩)
  have HM0 := Lib.hid (show M < w.heap.size ∧ w.cell? ⟨M, 0, none⟩ = some (.pointer (some ⟨C, 0, none⟩)) from ⟨World.block_lt_of_cell? w _ hm, hm⟩)
  have HA1 := Lib.hid (show bA < w.heap.size ∧ w.cell? ⟨bA, 1, none⟩ = some (.int .i64 p.b) from ⟨(Array.getElem?_eq_some_iff.1 ha).1, cell_at ha 1⟩)
  have HAL := Lib.hid (Array.getElem?_eq_some_iff.1 ha).1
  have HRX := Lib.hid (show w.rangeAt bA 2 (bc p.x) from fun j v hv => by
    rw [cell_at ha (2 + j), List.getElem?_toArray, show 2 + j = j + 1 + 1 by omega]
    exact hv)
  have HSz := Lib.hid (show (Try.prog.info? 44).map (·.size) = some (bc p.x).length by rw [bc_length, hx]; exact size32)
  obtain ⟨bm, bp, S, hU, hcp⟩ := HC.out
  have HCP := Lib.hid hcp
  have HU := Lib.hid hU
  have HWR := Lib.hid (fun wq (ht : Touch [] w wq) => write_any (hcp.disk.kept ht (by simp)) p.b p.x hx hl.ws hl.acts hl.left)
  clear h hb hm ha hl hcp hU hx
  go_enter Try.func40, Try.ntmps40
  go_upto_region 1 with (fail)
  refine wp_region_facts_tail 9 (by kernel_rfl) (by kernel_rfl) [[], [(0, some 3)], [(1, some 4)], [(2, some 5)], [(3, some 6)], [], [(5, some 8)], [], [(7, some 10)]] [(0, some 3), (1, some 4), (2, some 5), (3, some 6), (4, some 7), (5, some 8), (6, some 9), (7, some 10), (8, some 11)] (by kernel_rfl) (by kernel_rfl) (by kernel_rfl) (Touch []) (Touch.refl []) (fun _ _ _ h h' => h.trans h' (fun i hi => .inl hi)) [Is (Value.pointer (some ⟨M, 0, none⟩)), Is (Value.pointer (some ⟨M, 0, none⟩)), Is (Value.pointer (some ⟨M, 0, none⟩)), Is (Value.pointer (some ⟨C, 0, none⟩)), Is (Value.pointer (some ⟨B, 0, none⟩)), Is (Value.pointer (some ⟨bA, 1, none⟩)), Is (Value.int .i64 p.b), Is (Value.pointer (some ⟨bA, 2, none⟩)), Is (Value.agg (bc p.x).toArray)] rfl ⟨is_stab _ _, is_stab _ _, is_stab _ _, is_stab _ _, is_stab _ _, is_stab _ _, is_stab _ _, is_stab _ _, is_stab _ _, trivial⟩ ⟨?o0, ?o1, ?o2, ?o3, ?o4, ?o5, ?o6, ?o7, ?o8, trivial⟩ ?_
  case o0 =>
    intro vals wq hRq hpq
    simp only [List.getD_cons_zero, List.getD_cons_succ, canonP]
    have hcc : wq.cell? ⟨bM, 0, none⟩ = some (.pointer (some ⟨M, 0, none⟩)) := (Touch.cell ((Touch.drew [] _).trans hRq (by simp)) (a := ⟨bM, 0, none⟩) HB0.out.1 (by simp)).trans HB0.out.2
    simp only [Oper.gives]
    go_simp
    exact ⟨is_mk _ _, Touch.refl _ _⟩
  case o1 =>
    intro vals wq hRq hpq
    simp only [factsP, List.getD_cons_zero, List.getD_cons_succ] at hpq
    have f0 := hpq.1
    replace hpq := hpq.2
    clear hpq
    replace f0 : vals 0 = _ := f0
    simp only [List.getD_cons_zero, List.getD_cons_succ, canonP, f0]
    clear f0
    simp only [Oper.gives]
    go_simp
    exact ⟨is_mk _ _, Touch.refl _ _⟩
  case o2 =>
    intro vals wq hRq hpq
    simp only [factsP, List.getD_cons_zero, List.getD_cons_succ] at hpq
    have f1 := hpq.1
    replace hpq := hpq.2
    clear hpq
    replace f1 : vals 1 = _ := f1
    simp only [List.getD_cons_zero, List.getD_cons_succ, canonP, f1]
    clear f1
    simp only [Oper.gives]
    go_simp
    exact ⟨is_mk _ _, (Touch.refl []) _⟩
  case o3 =>
    intro vals wq hRq hpq
    simp only [factsP, List.getD_cons_zero, List.getD_cons_succ] at hpq
    have f2 := hpq.1
    replace hpq := hpq.2
    clear hpq
    replace f2 : vals 2 = _ := f2
    simp only [List.getD_cons_zero, List.getD_cons_succ, canonP, f2]
    clear f2
    have hcc : wq.cell? ⟨M, 0, none⟩ = some (.pointer (some ⟨C, 0, none⟩)) := (Touch.cell ((Touch.drew [] _).trans hRq (by simp)) (a := ⟨M, 0, none⟩) HM0.out.1 (by simp)).trans HM0.out.2
    simp only [Oper.gives]
    go_simp
    exact ⟨is_mk _ _, Touch.refl _ _⟩
  case o4 =>
    intro vals wq hRq hpq
    simp only [factsP, List.getD_cons_zero, List.getD_cons_succ] at hpq
    have f3 := hpq.1
    replace hpq := hpq.2
    clear hpq
    replace f3 : vals 3 = _ := f3
    simp only [List.getD_cons_zero, List.getD_cons_succ, canonP, f3]
    clear f3
    simp only [Oper.gives]
    go_simp
    exact (cdisk_yes (HC.out.kept ((Touch.drew [] _).trans hRq (by simp)) (by simp))).mono fun e w' ⟨he, hg⟩ => ⟨_, he, is_mk _ _, hg ▸ Touch.refl _ _⟩
  case o5 =>
    intro vals wq hRq hpq
    simp only [List.getD_cons_zero, List.getD_cons_succ, canonP]
    simp only [Oper.gives]
    go_simp
    exact ⟨is_mk _ _, (Touch.refl []) _⟩
  case o6 =>
    intro vals wq hRq hpq
    simp only [factsP, List.getD_cons_zero, List.getD_cons_succ] at hpq
    have f5 := hpq.1
    replace hpq := hpq.2
    clear hpq
    replace f5 : vals 5 = _ := f5
    simp only [List.getD_cons_zero, List.getD_cons_succ, canonP, f5]
    clear f5
    have hcc : wq.cell? ⟨bA, 1, none⟩ = some (.int .i64 p.b) := (Touch.cell ((Touch.drew [] _).trans hRq (by simp)) (a := ⟨bA, 1, none⟩) HA1.out.1 (by simp)).trans HA1.out.2
    simp only [Oper.gives]
    go_simp
    exact ⟨is_mk _ _, Touch.refl _ _⟩
  case o7 =>
    intro vals wq hRq hpq
    simp only [List.getD_cons_zero, List.getD_cons_succ, canonP]
    simp only [Oper.gives]
    go_simp
    exact ⟨is_mk _ _, (Touch.refl []) _⟩
  case o8 =>
    intro vals wq hRq hpq
    simp only [factsP, List.getD_cons_zero, List.getD_cons_succ] at hpq
    have f7 := hpq.1
    replace hpq := hpq.2
    clear hpq
    replace f7 : vals 7 = _ := f7
    simp only [List.getD_cons_zero, List.getD_cons_succ, canonP, f7]
    clear f7
    have hrg : wq.rangeAt bA 2 (bc p.x) := range_touch HRX.out ((Touch.drew [] _).trans hRq (by simp)) HAL.out (by simp)
    exact gives_load_mid 44 _ rfl bA 2 rfl (bc p.x) _ hrg Try.underlying44 rfl HSz.out ⟨is_mk _ _, Touch.refl _ _⟩
  intro vals wz hRwz hfwz
  simp only [AllFacts] at hfwz
  have g0 := hfwz.1
  replace hfwz := hfwz.2
  have g1 := hfwz.1
  replace hfwz := hfwz.2
  have g2 := hfwz.1
  replace hfwz := hfwz.2
  have g3 := hfwz.1
  replace hfwz := hfwz.2
  have g4 := hfwz.1
  replace hfwz := hfwz.2
  have g5 := hfwz.1
  replace hfwz := hfwz.2
  have g6 := hfwz.1
  replace hfwz := hfwz.2
  have g7 := hfwz.1
  replace hfwz := hfwz.2
  have g8 := hfwz.1
  replace hfwz := hfwz.2
  clear hfwz
  replace g0 : vals 0 = _ := g0
  replace g1 : vals 1 = _ := g1
  replace g2 : vals 2 = _ := g2
  replace g3 : vals 3 = _ := g3
  replace g4 : vals 4 = _ := g4
  replace g5 : vals 5 = _ := g5
  replace g6 : vals 6 = _ := g6
  replace g7 : vals 7 = _ := g7
  replace g8 : vals 8 = _ := g8
  simp only [List.drop_succ_cons, List.drop_zero]
  simp only [canonP, Act.put, List.setIfInBounds_toArray, List.set_cons_succ, List.set_cons_zero, g0, g1, g2, g3, g4, g5, g6, g7, g8]
  clear g0 g1 g2 g3 g4 g5 g6 g7 g8
  have HTW := Lib.hid ((Touch.drew [] w).trans hRwz (by simp))
  clear hRwz
  go_wp2_with fail
  refine (HWR.out _ HTW.out).mono ?_
  intro e w' hpost
  obtain ⟨he, S', h1, h2, h3⟩ := hpost
  subst he
  have ht := (HTW.out.mono (S' := S) (by simp)).trans h2 (fun k hk => .inl hk)
  have HF := Lib.hid (show ∃ U', IsCache w' C B U' (n + 1) { s with d := s.d.tried p.b p.x } ∧ Touch U w w' ∧ ∀ k ∈ U', k ∈ U ∨ w.heap.size ≤ k from ⟨_, (IsCache.diskTo HCP.out h1 ht (fun k hk => (h3 k hk).imp id (Nat.le_trans HTW.out.size)) (tried_len _ _ _)).more, ht.mono (fun k hk => .inl (by rw [HU.out]; simp [hk])), fun k hk => by
    rw [HU.out]
    simp only [List.mem_cons] at hk ⊢
    rcases hk with rfl | rfl | rfl | hk
    · exact .inl (.inl rfl)
    · exact .inl (.inr (.inl rfl))
    · exact .inl (.inr (.inr (.inl rfl)))
    · rcases h3 k hk with h | h
      · exact .inl (.inr (.inr (.inr h)))
      · exact .inr (Nat.le_trans HTW.out.size h)⟩)
  clear h1 h2 h3 ht
  go_wp2_with fail
  go_ret
  exact ⟨rfl, HF.out⟩
#print axioms ready2_ok
theorem flush_dead {w : World} {B : Nat} {S : List Nat} {d : DS} (h : IsDisk w B S d) (hd : d.dead = true) : Calls Try.prog 43 #[.pointer (some ⟨B, 0, none⟩)] w fun e w' => e = .returned (.int .i64 30) ∧ w = w' := by
  have HR := Lib.hid (refuse_dead h hd)
  clear h hd
  go_enter Try.func43, Try.ntmps43
  go_wp2_with fail
  refine HR.out.mono ?_
  rintro e w' ⟨rfl, rfl⟩
  go_wp2_with fail
  go_ret
  exact ⟨rfl, rfl⟩
set_option maxHeartbeats 2000000 in
theorem ready3_ok {w : World} {C B : Nat} {U : List Nat} {n : Nat} {s : CS} (h : IsCache w C B U n s) (hl : Lim s) {M bM : Nat} (hb : w.heap[bM]? = some (.cells #[.pointer (some ⟨M, 0, none⟩)] 48)) (hm : w.cell? ⟨M, 0, none⟩ = some (.pointer (some ⟨C, 0, none⟩))) :
    Calls Try.prog 42 #[.pointer (some ⟨bM, 0, none⟩)] w fun e w' => e = .returned (.int .i64 (if s.d.dead then 30 else 0)) ∧ ∃ U', IsCache w' C B U' (n + 1) (if s.d.dead then s else { s with d := s.d.flushed }) ∧ Touch U w w' ∧ ∀ k ∈ U', k ∈ U ∨ w.heap.size ≤ k := by
  have HC := Lib.hid h
  have b0 := cell_at hb 0
  obtain ⟨bm, bp, S, hU, hcp⟩ := HC.out
  have HCP := Lib.hid hcp
  have HU := Lib.hid hU
  cases hd : s.d.dead with
  | true =>
    have HFD := Lib.hid (flush_dead hcp.disk hd)
    clear h hl hcp hU hd hb
    go_enter Try.func42, Try.ntmps42
    go_wp2_with fail
    refine (cdisk_yes HC.out).mono ?_
    rintro e w' ⟨rfl, rfl⟩
    go_wp2_with fail
    refine HFD.out.mono ?_
    rintro e w' ⟨rfl, rfl⟩
    go_wp2_with fail
    go_ret
    exact ⟨rfl, U, HC.out.more, Touch.refl _ _, fun k hk => .inl hk⟩
  | false =>
    have HFD := Lib.hid (flush_ok hcp.disk hd hl.wlt (by have := hl.ws; omega) hl.acts hl.left)
    clear h hl hcp hU hd hb
    go_enter Try.func42, Try.ntmps42
    go_wp2_with fail
    refine (cdisk_yes HC.out).mono ?_
    rintro e w' ⟨rfl, rfl⟩
    go_wp2_with fail
    refine HFD.out.mono ?_
    intro e w2 hpost
    obtain ⟨he, h1, h2⟩ := hpost
    subst he
    have HF := Lib.hid (show ∃ U', IsCache w2 C B U' (n + 1) { s with d := s.d.flushed } ∧ Touch U w w2 ∧ ∀ k ∈ U', k ∈ U ∨ w.heap.size ≤ k from ⟨_, (IsCache.diskTo HCP.out h1 h2 (fun k hk => .inl hk) (flushed_len _)).more, h2.mono (fun k hk => .inl (by rw [HU.out]; simp [hk])), fun k hk => .inl (by rw [HU.out]; exact hk)⟩)
    clear h1 h2
    go_wp2_with fail
    go_ret
    exact ⟨rfl, HF.out⟩
#print axioms ready3_ok
end Go.Proofs.Ytieknecbheeekaa
