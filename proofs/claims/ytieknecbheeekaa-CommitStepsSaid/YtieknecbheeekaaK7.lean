/- A machine of actions in memory; ready: the walk. -/
import Derived.Test.YtieknecbheeekaaK6
import Derived.Laws.AppendOwnNone
import Derived.Laws.EntriesVeiled
set_option linter.unusedVariables false
set_option linter.unusedSimpArgs false
namespace Go.Proofs.Ytieknecbheeekaa
open Go.RowKit Go.Maps

/-- an action -/
structure AT where
  k : Int
  b : Int
  x : Blk
def ac (p : AT) : List Value := .int .u8 p.k :: .int .i64 p.b :: bc p.x
theorem ac_length {p : AT} (h : p.x.length = 256) : (ac p).length = 258 := by unfold ac; rw [List.length_cons, List.length_cons, bc_length, h]
theorem ac_len_inv {p : AT} (h : (ac p).length = 258) : p.x.length = 256 := by
  unfold ac at h
  rw [List.length_cons, List.length_cons, bc_length] at h
  omega
theorem ac_one (p : AT) : ∀ v ∈ ac p, v.oneCell' = true := by
  intro v hv
  rcases List.mem_cons.1 hv with rfl | h
  · rfl
  · rcases List.mem_cons.1 h with rfl | h
    · rfl
    · exact bc_one _ v h
def zeroA : AT := ⟨0, 0, zeroB⟩
theorem zeroA_length : (ac zeroA).length = 258 := ac_length (show zeroB.length = 256 from List.length_replicate)
theorem infoA : (Try.prog.info? 53).map (fun i => (i.zero, i.size, i.bytes)) = some (some (.agg (ac zeroA).toArray), 258, 272) := by kernel_rfl
theorem sizeA : (Try.prog.info? 53).map (·.size) = some 258 := by kernel_rfl
theorem zeroAct (w : World) : (zeroValue 53).run Try.prog w = .ok (.agg (ac zeroA).toArray) w := (zero_of_info (show (Try.prog.info? 53).map (fun i => (i.zero, i.size)) = some (some (.agg (ac zeroA).toArray), 258) by kernel_rfl)).1 w
/-- the actions that are left -/
def Acts (w : World) (g : Nat) (v : Value) (l : List AT) : Prop := ∃ a cap, v = .slice a l.length cap ∧ l.length ≤ cap ∧ ∀ j p, l[j]? = some p → ∃ o, a = some ⟨g, o, none⟩ ∧ g < w.heap.size ∧ w.rangeAt g (o + j * 258) (ac p) ∧ p.x.length = 256
theorem Acts.kept {w w' : World} {g : Nat} {v : Value} {l : List AT} (h : Acts w g v l) {T : List Nat} (ht : Touch T w w') (hg : g ∉ T) : Acts w' g v l := by
  obtain ⟨a, cap, hv, hc, hi⟩ := h
  refine ⟨a, cap, hv, hc, fun j p hj => ?_⟩
  obtain ⟨o, ha, hl, hr, hx⟩ := hi j p hj
  exact ⟨o, ha, Nat.lt_of_lt_of_le hl ht.size, range_touch hr ht hl hg, hx⟩
theorem Acts.first {w : World} {g : Nat} {a : Option Addr} {n cap : Nat} {p : AT} {l : List AT} (h : Acts w g (.slice a n cap) (p :: l)) : n = l.length + 1 ∧ ∃ o, a = some ⟨g, o, none⟩ ∧ g < w.heap.size ∧ w.rangeAt g o (ac p) ∧ p.x.length = 256 := by
  obtain ⟨a', cap', hv, hc, hi⟩ := h
  injection hv with e1 e2 e3
  subst e1
  obtain ⟨o, h1, h2, h3, h4⟩ := hi 0 p rfl
  exact ⟨e2, o, h1, h2, by rw [Nat.zero_mul, Nat.add_zero] at h3; exact h3, h4⟩
/-- the thing to do next -/
def NextIs (w : World) (M : Nat) (W : List Nat) (p : AT) (v : Value) : Prop :=
  if p.k = 1 then ∃ bM bA, v = .func (.func 38) #[] #[.pointer (some ⟨bM, 0, none⟩), .pointer (some ⟨bA, 0, none⟩)] ∧ bM ∈ W ∧ bA ∈ W ∧ w.heap[bM]? = some (.cells #[.pointer (some ⟨M, 0, none⟩)] 48) ∧ w.heap[bA]? = some (.cells (ac p).toArray 53)
  else if p.k = 2 then ∃ bM bA, v = .func (.func 40) #[] #[.pointer (some ⟨bM, 0, none⟩), .pointer (some ⟨bA, 0, none⟩)] ∧ bM ∈ W ∧ bA ∈ W ∧ w.heap[bM]? = some (.cells #[.pointer (some ⟨M, 0, none⟩)] 48) ∧ w.heap[bA]? = some (.cells (ac p).toArray 53)
  else if p.k = 3 then ∃ bM, v = .func (.func 42) #[] #[.pointer (some ⟨bM, 0, none⟩)] ∧ bM ∈ W ∧ w.heap[bM]? = some (.cells #[.pointer (some ⟨M, 0, none⟩)] 48)
  else v = .func (.func 44) #[] #[]
theorem NextIs.kept {w w' : World} {M : Nat} {W : List Nat} {p : AT} {v : Value} (h : NextIs w M W p v) {T : List Nat} (ht : Touch T w w') (hn : ∀ k ∈ W, k ∉ T) : NextIs w' M W p v := by
  unfold NextIs at h ⊢
  split
  · rename_i c
    rw [if_pos c] at h
    obtain ⟨bM, bA, h1, h2, h3, h4, h5⟩ := h
    exact ⟨bM, bA, h1, h2, h3, (ht.block bM (Array.getElem?_eq_some_iff.1 h4).1 (hn _ h2)).trans h4, (ht.block bA (Array.getElem?_eq_some_iff.1 h5).1 (hn _ h3)).trans h5⟩
  · rename_i c
    rw [if_neg c] at h
    split
    · rename_i c2
      rw [if_pos c2] at h
      obtain ⟨bM, bA, h1, h2, h3, h4, h5⟩ := h
      exact ⟨bM, bA, h1, h2, h3, (ht.block bM (Array.getElem?_eq_some_iff.1 h4).1 (hn _ h2)).trans h4, (ht.block bA (Array.getElem?_eq_some_iff.1 h5).1 (hn _ h3)).trans h5⟩
    · rename_i c2
      rw [if_neg c2] at h
      split
      · rename_i c3
        rw [if_pos c3] at h
        obtain ⟨bM, h1, h2, h4⟩ := h
        exact ⟨bM, h1, h2, (ht.block bM (Array.getElem?_eq_some_iff.1 h4).1 (hn _ h2)).trans h4⟩
      · rename_i c3
        rw [if_neg c3] at h
        exact h
/-- a machine: W are its own blocks -/
structure MParts (w : World) (M C g : Nat) (W : List Nat) (l : List AT) (v nv : Value) : Prop where
  obj : w.heap[M]? = some (.cells #[.pointer (some ⟨C, 0, none⟩), v, nv] 86)
  acts : Acts w g v l
  next : ∀ p r, l = p :: r → NextIs w M W p nv
  mW : M ∈ W
  gW : g ∈ W
  mg : M ≠ g
  lt : ∀ k ∈ W, k < w.heap.size
theorem MParts.kept {w w' : World} {M C g : Nat} {W : List Nat} {l : List AT} {v nv : Value} (h : MParts w M C g W l v nv) {T : List Nat} (ht : Touch T w w') (hn : ∀ k ∈ W, k ∉ T) : MParts w' M C g W l v nv :=
  { h with
    obj := (ht.block M (h.lt M h.mW) (hn M h.mW)).trans h.obj
    acts := h.acts.kept ht (hn g h.gW)
    next := fun p r e => (h.next p r e).kept ht hn
    lt := fun k hk => Nat.lt_of_lt_of_le (h.lt k hk) ht.size }
def IsMach (w : World) (M C : Nat) (W : List Nat) (l : List AT) : Prop := ∃ g v nv, MParts w M C g W l v nv
theorem IsMach.kept {w w' : World} {M C : Nat} {W : List Nat} {l : List AT} (h : IsMach w M C W l) {T : List Nat} (ht : Touch T w w') (hn : ∀ k ∈ W, k ∉ T) : IsMach w' M C W l := by
  obtain ⟨g, v, nv, h⟩ := h
  exact ⟨g, v, nv, h.kept ht hn⟩
/-- behind ready -/
def ReadyPost (M C g : Nat) (W : List Nat) (l : List AT) (v : Value) (w : World) (e : Ending) (w' : World) : Prop :=
  (∃ u, e = .returned u) ∧ ∃ nv W', MParts w' M C g W' l v nv ∧ Touch [M] w w' ∧ (∀ k ∈ W', k ∈ W ∨ w.heap.size ≤ k) ∧ ∀ k ∈ W, k ∈ W'
/-- a machine whose next thing is not said -/
structure MBare (w : World) (M C g : Nat) (W : List Nat) (l : List AT) (v : Value) : Prop where
  obj : ∃ nv, w.heap[M]? = some (.cells #[.pointer (some ⟨C, 0, none⟩), v, nv] 86)
  acts : Acts w g v l
  mW : M ∈ W
  gW : g ∈ W
  mg : M ≠ g
  lt : ∀ k ∈ W, k < w.heap.size
theorem MBare.set {w : World} {M C g : Nat} {W : List Nat} {l : List AT} {v : Value} (h : MBare w M C g W l v) {w1 : World} (ht : Touch [] w w1) {W1 : List Nat} (hW : ∀ k ∈ W, k ∈ W1) (hl : ∀ k ∈ W1, k < w1.heap.size) (nv : Value) (hn : ∀ p r, l = p :: r → NextIs w1 M W1 p nv) (hM : ∀ p r, l = p :: r → M ∈ W1) (hne : ∀ p r, l = p :: r → NextIs (w1.setCell ⟨M, 2, none⟩ nv) M W1 p nv) :
    MParts (w1.setCell ⟨M, 2, none⟩ nv) M C g W1 l v nv := by
  obtain ⟨nv0, ho⟩ := h.obj
  have h1 : w1.heap[M]? = some (.cells #[.pointer (some ⟨C, 0, none⟩), v, nv0] 86) := (ht.block M (h.lt M h.mW) (by simp)).trans ho
  have ht2 : Touch [M] w1 (w1.setCell ⟨M, 2, none⟩ nv) := Touch.setCell w1 (by simp) _
  exact {
    obj := by rw [heap_set h1 2 _]; rfl
    acts := (h.acts.kept ht (by simp)).kept ht2 (by simpa using fun e => h.mg e.symm)
    next := hne
    mW := hW M h.mW
    gW := hW g h.gW
    mg := h.mg
    lt := fun k hk => by simpa using hl k hk }
theorem MBare.cells {w : World} {M C g : Nat} {W : List Nat} {l : List AT} {v : Value} (h : MBare w M C g W l v) : ∃ nv, w.cell? ⟨M, 0, none⟩ = some (.pointer (some ⟨C, 0, none⟩)) ∧ w.cell? ⟨M, 1, none⟩ = some v ∧ w.cell? ⟨M, 2, none⟩ = some nv ∧ w.frozen? ⟨M, 2, none⟩ = false := by
  obtain ⟨nv, ho⟩ := h.obj
  exact ⟨nv, cell_at ho 0, cell_at ho 1, cell_at ho 2, frozen_at ho 2⟩
theorem MBare.kept0 {w w' : World} {M C g : Nat} {W : List Nat} {l : List AT} {v : Value} (h : MBare w M C g W l v) (ht : Touch [] w w') : MBare w' M C g W l v :=
  { h with
    obj := by obtain ⟨nv, ho⟩ := h.obj; exact ⟨nv, (ht.block M (h.lt M h.mW) (by simp)).trans ho⟩
    acts := h.acts.kept ht (by simp)
    lt := fun k hk => Nat.lt_of_lt_of_le (h.lt k hk) ht.size }
set_option maxHeartbeats 2000000 in
theorem ready_nil {w : World} {M C g : Nat} {W : List Nat} {v : Value} (h : MBare w M C g W [] v) : Calls Try.prog 30 #[.pointer (some ⟨M, 0, none⟩)] w (ReadyPost M C g W [] v w) := by
  have HB := Lib.hid h
  obtain ⟨a, cap, hv, _⟩ := h.acts
  rw [List.length_nil] at hv
  subst hv
  have ht := Touch.alloc [] w (.cells #[.pointer (some ⟨M, 0, none⟩)] 48)
  obtain ⟨nv, _, c1, c2, f2⟩ := (h.kept0 ht).cells
  have HF := Lib.hid (h.set ht (W1 := W) (fun k hk => hk) (fun k hk => Nat.lt_of_lt_of_le (h.lt k hk) ht.size) .nilFunc (fun p r e => by cases e) (fun p r e => by cases e) (fun p r e => by cases e))
  have hz := heap_alloc_last w (.cells #[.pointer (some ⟨M, 0, none⟩)] 48)
  have z0 := cell_at hz 0
  have HT := Lib.hid (show Touch [M] w ((w.alloc (.cells #[.pointer (some ⟨M, 0, none⟩)] 48)).setCell ⟨M, 2, none⟩ .nilFunc) from (ht.mono (by simp)).trans (Touch.setCell (S := [M]) _ (by simp) _) (fun k hk => .inl hk))
  clear h ht hz
  go_enter Try.func30, Try.ntmps30
  go_wp2_with fail
  go_end0
  exact ⟨⟨_, rfl⟩, _, W, HF.out, HT.out, fun k hk => .inl hk, fun k hk => hk⟩
#print axioms ready_nil
set_option maxRecDepth 100000 in
set_option maxHeartbeats 4000000 in
theorem ready_back {w : World} {M C g : Nat} {W : List Nat} {p : AT} {l : List AT} {v : Value} (h : MBare w M C g W (p :: l) v) (hl : l.length ≤ 1000000) (hk : p.k = 1) : Calls Try.prog 30 #[.pointer (some ⟨M, 0, none⟩)] w (ReadyPost M C g W (p :: l) v w) := by
  have HB := Lib.hid h
  obtain ⟨a, cap, hv, hcap, _⟩ := h.acts
  rw [List.length_cons] at hv
  subst hv
  have ha := h.acts
  obtain ⟨_, o, rfl, hgl, hrg, hx⟩ := ha.first
  have hlM := h.lt M h.mW
  have hal := ac_length hx
  have ht1 := Touch.alloc [] w (.cells #[.pointer (some ⟨M, 0, none⟩)] 48)
  have ht2 := ht1.trans (Touch.alloc [] (w.alloc (.cells #[.pointer (some ⟨M, 0, none⟩)] 48)) (.cells (ac zeroA).toArray 53)) (by simp)
  have hst : Touch [w.heap.size + 1] ((w.alloc (.cells #[.pointer (some ⟨M, 0, none⟩)] 48)).alloc (.cells (ac zeroA).toArray 53)) (((w.alloc (.cells #[.pointer (some ⟨M, 0, none⟩)] 48)).alloc (.cells (ac zeroA).toArray 53)).setRow (w.heap.size + 1) (ac p).toArray) :=
    Touch.mono (S := [w.heap.size + 1]) (by
      have hb := below_setRow (Below.refl (w.heap.size + 1) ((w.alloc (.cells #[.pointer (some ⟨M, 0, none⟩)] 48)).alloc (.cells (ac zeroA).toArray 53))) (Nat.le_refl _) (ac p).toArray
      exact ⟨hb.os, hb.tape, hb.output, hb.size, fun k hk hm => hb.block k (by simp at hk hm; omega)⟩) (fun i hi => .inl hi)
  obtain ⟨W2, hW2⟩ : ∃ W2, W2 = ((w.alloc (.cells #[.pointer (some ⟨M, 0, none⟩)] 48)).alloc (.cells (ac zeroA).toArray 53)).setRow (w.heap.size + 1) (ac p).toArray := ⟨_, rfl⟩
  have hBA : W2.heap[w.heap.size + 1]? = some (.cells (ac p).toArray 53) := by
    rw [hW2]; exact setRow_heap _ _ _ _ _ _ (heap_two _ _ _)
  have htw : Touch [] w W2 := by
    rw [hW2]
    exact (ht2.mono (S' := [w.heap.size + 1]) (by simp)).trans hst (fun i hi => .inl hi) |>.mono (fun i hi => .inr (by rw [List.mem_singleton.1 hi]; omega))
  have hsz : W2.heap.size = w.heap.size + 2 := by rw [hW2]; simp
  have hBM : W2.heap[w.heap.size]? = some (.cells #[.pointer (some ⟨M, 0, none⟩)] 48) := by
    rw [hW2]
    refine (hst.block _ (by simp; omega) (by simp)).trans ?_
    rw [Below.heap_alloc _ _ _ (by simp)]
    exact heap_alloc_last w _
  have hBMl : w.heap.size < W2.heap.size := by omega
  have hBAl : w.heap.size + 1 < W2.heap.size := by omega
  have hst : Touch [M] W2 (W2.setCell ⟨M, 2, none⟩ (.func (.func 38) #[] #[.pointer (some ⟨w.heap.size, 0, none⟩), .pointer (some ⟨w.heap.size + 1, 0, none⟩)])) := Touch.setCell W2 (by simp) _
  have HF := Lib.hid (h.set htw (W1 := w.heap.size :: (w.heap.size + 1) :: W) (fun k hk => by simp [hk]) (fun k hk => by
    simp only [List.mem_cons] at hk
    rcases hk with rfl | rfl | hk
    · exact hBMl
    · exact hBAl
    · exact Nat.lt_of_lt_of_le (h.lt k hk) htw.size) (.func (.func 38) #[] #[.pointer (some ⟨w.heap.size, 0, none⟩), .pointer (some ⟨w.heap.size + 1, 0, none⟩)]) (fun q r e => by cases e; unfold NextIs; rw [if_pos hk]; exact ⟨w.heap.size, w.heap.size + 1, rfl, by simp, by simp, hBM, hBA⟩) (fun _ _ _ => by simp [h.mW]) (fun q r e => by cases e; unfold NextIs; rw [if_pos hk]; exact ⟨w.heap.size, w.heap.size + 1, rfl, by simp, by simp, (hst.block _ hBMl (by simp; omega)).trans hBM, (hst.block _ hBAl (by simp; omega)).trans hBA⟩))
  have HT := Lib.hid (show Touch [M] w (W2.setCell ⟨M, 2, none⟩ (.func (.func 38) #[] #[.pointer (some ⟨w.heap.size, 0, none⟩), .pointer (some ⟨w.heap.size + 1, 0, none⟩)])) from (htw.mono (by simp)).trans hst (fun k hk => .inl hk))
  have z0 := cell_at (heap_alloc_last w (.cells #[.pointer (some ⟨M, 0, none⟩)] 48)) 0
  have HRG := Lib.hid (range_touch hrg ht1 hgl (by simp))
  have HRG2 := Lib.hid (range_touch hrg ht2 hgl (by simp))
  have HAL := Lib.hid hal
  obtain ⟨_, _, c1, _, _⟩ := (h.kept0 ht1).cells
  obtain ⟨nv0, d0, d1, d2, f2⟩ := (h.kept0 htw).cells
  have y0 := cell_at hBM 0
  have k0 : W2.cell? ⟨w.heap.size + 1, 0, none⟩ = some (.int .u8 p.k) := cell_at hBA 0
  have hmf : ∀ (fn : Fn) (first cap : Array Value) (w : World), (Instr.makeFunc fn first cap).run Try.prog w = .ok (.func fn first cap) w := fun _ _ _ _ => rfl
  have hza := zeroAct
  have HZA := Lib.hid (show (ac zeroA).toArray.size = (ac p).toArray.size by rw [List.size_toArray, List.size_toArray, zeroA_length, hal])
  have HSz := Lib.hid (show (Try.prog.info? 53).map (·.size) = some (ac p).length by rw [hal]; exact sizeA)
  have HSz2 := Lib.hid (show (Try.prog.info? 53).map (·.size) = some (ac p).toArray.size by rw [List.size_toArray, hal]; exact sizeA)
  have e1 : (p.k == 1) = true := by simp; omega
  obtain ⟨n, hn⟩ : ∃ n, n = l.length := ⟨_, rfl⟩
  rw [← hn] at c1 d1 HF hl ⊢
  have n0 : (((n + 1 : Nat) : Int) == 0) = false := by simp; omega
  generalize hn1 : n + 1 = n1 at *
  have b1 : (0 : Int) < (n1 : Int) := by omega
  have HW2 := Lib.hid hW2
  have hOA := Lib.hid (all_oneCell_toArray (ac_one p))
  generalize (ac zeroA).toArray = ZA at *
  have HH2 := Lib.hid (heap_two w (.cells #[.pointer (some ⟨M, 0, none⟩)] 48) (.cells ZA 53))
  clear h ha hgl hrg hx hlM hal ht1 ht2 hst hBA htw hsz hBM hBMl hBAl hk hn hn1 hW2 hcap
  go_enter Try.func30, Try.ntmps30
  go_upto_region 4 with (first
    | (refine wpList_load_mid rfl 53 _ rfl g o rfl (ac p) _ HRG.out Try.underlying53 rfl HSz.out ?_)
    | (refine wpList_store_row rfl 53 _ _ rfl (w.heap.size + 1) (ac p).toArray rfl rfl 53 ZA HH2.out HSz2.out HZA.out hOA.out ?_))
  rw [← HW2.out]
  clear c1 z0
  go_wp2_with fail
  go_end0
  refine ⟨⟨_, rfl⟩, _, _, HF.out, HT.out, ?_, fun k hk => by simp [hk]⟩
  intro k hk
  simp only [List.mem_cons] at hk
  rcases hk with rfl | rfl | hk
  · exact .inr (Nat.le_refl _)
  · exact .inr (by omega)
  · exact .inl hk
#print axioms ready_back
set_option maxRecDepth 100000 in
set_option maxHeartbeats 4000000 in
theorem ready_write {w : World} {M C g : Nat} {W : List Nat} {p : AT} {l : List AT} {v : Value} (h : MBare w M C g W (p :: l) v) (hl : l.length ≤ 1000000) (hk : p.k = 2) : Calls Try.prog 30 #[.pointer (some ⟨M, 0, none⟩)] w (ReadyPost M C g W (p :: l) v w) := by
  have HB := Lib.hid h
  obtain ⟨a, cap, hv, hcap, _⟩ := h.acts
  rw [List.length_cons] at hv
  subst hv
  have ha := h.acts
  obtain ⟨_, o, rfl, hgl, hrg, hx⟩ := ha.first
  have hlM := h.lt M h.mW
  have hal := ac_length hx
  have ht1 := Touch.alloc [] w (.cells #[.pointer (some ⟨M, 0, none⟩)] 48)
  have ht2 := ht1.trans (Touch.alloc [] (w.alloc (.cells #[.pointer (some ⟨M, 0, none⟩)] 48)) (.cells (ac zeroA).toArray 53)) (by simp)
  have hst : Touch [w.heap.size + 1] ((w.alloc (.cells #[.pointer (some ⟨M, 0, none⟩)] 48)).alloc (.cells (ac zeroA).toArray 53)) (((w.alloc (.cells #[.pointer (some ⟨M, 0, none⟩)] 48)).alloc (.cells (ac zeroA).toArray 53)).setRow (w.heap.size + 1) (ac p).toArray) :=
    Touch.mono (S := [w.heap.size + 1]) (by
      have hb := below_setRow (Below.refl (w.heap.size + 1) ((w.alloc (.cells #[.pointer (some ⟨M, 0, none⟩)] 48)).alloc (.cells (ac zeroA).toArray 53))) (Nat.le_refl _) (ac p).toArray
      exact ⟨hb.os, hb.tape, hb.output, hb.size, fun k hk hm => hb.block k (by simp at hk hm; omega)⟩) (fun i hi => .inl hi)
  obtain ⟨W2, hW2⟩ : ∃ W2, W2 = ((w.alloc (.cells #[.pointer (some ⟨M, 0, none⟩)] 48)).alloc (.cells (ac zeroA).toArray 53)).setRow (w.heap.size + 1) (ac p).toArray := ⟨_, rfl⟩
  have hBA : W2.heap[w.heap.size + 1]? = some (.cells (ac p).toArray 53) := by
    rw [hW2]; exact setRow_heap _ _ _ _ _ _ (heap_two _ _ _)
  have htw : Touch [] w W2 := by
    rw [hW2]
    exact (ht2.mono (S' := [w.heap.size + 1]) (by simp)).trans hst (fun i hi => .inl hi) |>.mono (fun i hi => .inr (by rw [List.mem_singleton.1 hi]; omega))
  have hsz : W2.heap.size = w.heap.size + 2 := by rw [hW2]; simp
  have hBM : W2.heap[w.heap.size]? = some (.cells #[.pointer (some ⟨M, 0, none⟩)] 48) := by
    rw [hW2]
    refine (hst.block _ (by simp; omega) (by simp)).trans ?_
    rw [Below.heap_alloc _ _ _ (by simp)]
    exact heap_alloc_last w _
  have hBMl : w.heap.size < W2.heap.size := by omega
  have hBAl : w.heap.size + 1 < W2.heap.size := by omega
  have hst : Touch [M] W2 (W2.setCell ⟨M, 2, none⟩ (.func (.func 40) #[] #[.pointer (some ⟨w.heap.size, 0, none⟩), .pointer (some ⟨w.heap.size + 1, 0, none⟩)])) := Touch.setCell W2 (by simp) _
  have HF := Lib.hid (h.set htw (W1 := w.heap.size :: (w.heap.size + 1) :: W) (fun k hk => by simp [hk]) (fun k hk => by
    simp only [List.mem_cons] at hk
    rcases hk with rfl | rfl | hk
    · exact hBMl
    · exact hBAl
    · exact Nat.lt_of_lt_of_le (h.lt k hk) htw.size) (.func (.func 40) #[] #[.pointer (some ⟨w.heap.size, 0, none⟩), .pointer (some ⟨w.heap.size + 1, 0, none⟩)]) (fun q r e => by cases e; unfold NextIs; rw [if_neg (by omega), if_pos hk]; exact ⟨w.heap.size, w.heap.size + 1, rfl, by simp, by simp, hBM, hBA⟩) (fun _ _ _ => by simp [h.mW]) (fun q r e => by cases e; unfold NextIs; rw [if_neg (by omega), if_pos hk]; exact ⟨w.heap.size, w.heap.size + 1, rfl, by simp, by simp, (hst.block _ hBMl (by simp; omega)).trans hBM, (hst.block _ hBAl (by simp; omega)).trans hBA⟩))
  have HT := Lib.hid (show Touch [M] w (W2.setCell ⟨M, 2, none⟩ (.func (.func 40) #[] #[.pointer (some ⟨w.heap.size, 0, none⟩), .pointer (some ⟨w.heap.size + 1, 0, none⟩)])) from (htw.mono (by simp)).trans hst (fun k hk => .inl hk))
  have z0 := cell_at (heap_alloc_last w (.cells #[.pointer (some ⟨M, 0, none⟩)] 48)) 0
  have HRG := Lib.hid (range_touch hrg ht1 hgl (by simp))
  have HRG2 := Lib.hid (range_touch hrg ht2 hgl (by simp))
  have HAL := Lib.hid hal
  obtain ⟨_, _, c1, _, _⟩ := (h.kept0 ht1).cells
  obtain ⟨nv0, d0, d1, d2, f2⟩ := (h.kept0 htw).cells
  have y0 := cell_at hBM 0
  have k0 : W2.cell? ⟨w.heap.size + 1, 0, none⟩ = some (.int .u8 p.k) := cell_at hBA 0
  have hmf : ∀ (fn : Fn) (first cap : Array Value) (w : World), (Instr.makeFunc fn first cap).run Try.prog w = .ok (.func fn first cap) w := fun _ _ _ _ => rfl
  have hza := zeroAct
  have HZA := Lib.hid (show (ac zeroA).toArray.size = (ac p).toArray.size by rw [List.size_toArray, List.size_toArray, zeroA_length, hal])
  have HSz := Lib.hid (show (Try.prog.info? 53).map (·.size) = some (ac p).length by rw [hal]; exact sizeA)
  have HSz2 := Lib.hid (show (Try.prog.info? 53).map (·.size) = some (ac p).toArray.size by rw [List.size_toArray, hal]; exact sizeA)
  have e1 : (p.k == 1) = false := by simp; omega
  have e2 : (p.k == 2) = true := by simp; omega
  obtain ⟨n, hn⟩ : ∃ n, n = l.length := ⟨_, rfl⟩
  rw [← hn] at c1 d1 HF hl ⊢
  have n0 : (((n + 1 : Nat) : Int) == 0) = false := by simp; omega
  generalize hn1 : n + 1 = n1 at *
  have b1 : (0 : Int) < (n1 : Int) := by omega
  have HW2 := Lib.hid hW2
  have hOA := Lib.hid (all_oneCell_toArray (ac_one p))
  generalize (ac zeroA).toArray = ZA at *
  have HH2 := Lib.hid (heap_two w (.cells #[.pointer (some ⟨M, 0, none⟩)] 48) (.cells ZA 53))
  clear h ha hgl hrg hx hlM hal ht1 ht2 hst hBA htw hsz hBM hBMl hBAl hk hn hn1 hW2 hcap
  go_enter Try.func30, Try.ntmps30
  go_upto_region 4 with (first
    | (refine wpList_load_mid rfl 53 _ rfl g o rfl (ac p) _ HRG.out Try.underlying53 rfl HSz.out ?_)
    | (refine wpList_store_row rfl 53 _ _ rfl (w.heap.size + 1) (ac p).toArray rfl rfl 53 ZA HH2.out HSz2.out HZA.out hOA.out ?_))
  rw [← HW2.out]
  clear c1 z0
  go_wp2_with fail
  go_end0
  refine ⟨⟨_, rfl⟩, _, _, HF.out, HT.out, ?_, fun k hk => by simp [hk]⟩
  intro k hk
  simp only [List.mem_cons] at hk
  rcases hk with rfl | rfl | hk
  · exact .inr (Nat.le_refl _)
  · exact .inr (by omega)
  · exact .inl hk
#print axioms ready_write
set_option maxRecDepth 100000 in
set_option maxHeartbeats 4000000 in
theorem ready_flush {w : World} {M C g : Nat} {W : List Nat} {p : AT} {l : List AT} {v : Value} (h : MBare w M C g W (p :: l) v) (hl : l.length ≤ 1000000) (hk : p.k = 3) : Calls Try.prog 30 #[.pointer (some ⟨M, 0, none⟩)] w (ReadyPost M C g W (p :: l) v w) := by
  have HB := Lib.hid h
  obtain ⟨a, cap, hv, hcap, _⟩ := h.acts
  rw [List.length_cons] at hv
  subst hv
  have ha := h.acts
  obtain ⟨_, o, rfl, hgl, hrg, hx⟩ := ha.first
  have hlM := h.lt M h.mW
  have hal := ac_length hx
  have ht1 := Touch.alloc [] w (.cells #[.pointer (some ⟨M, 0, none⟩)] 48)
  have ht2 := ht1.trans (Touch.alloc [] (w.alloc (.cells #[.pointer (some ⟨M, 0, none⟩)] 48)) (.cells (ac zeroA).toArray 53)) (by simp)
  have hst : Touch [w.heap.size + 1] ((w.alloc (.cells #[.pointer (some ⟨M, 0, none⟩)] 48)).alloc (.cells (ac zeroA).toArray 53)) (((w.alloc (.cells #[.pointer (some ⟨M, 0, none⟩)] 48)).alloc (.cells (ac zeroA).toArray 53)).setRow (w.heap.size + 1) (ac p).toArray) :=
    Touch.mono (S := [w.heap.size + 1]) (by
      have hb := below_setRow (Below.refl (w.heap.size + 1) ((w.alloc (.cells #[.pointer (some ⟨M, 0, none⟩)] 48)).alloc (.cells (ac zeroA).toArray 53))) (Nat.le_refl _) (ac p).toArray
      exact ⟨hb.os, hb.tape, hb.output, hb.size, fun k hk hm => hb.block k (by simp at hk hm; omega)⟩) (fun i hi => .inl hi)
  obtain ⟨W2, hW2⟩ : ∃ W2, W2 = ((w.alloc (.cells #[.pointer (some ⟨M, 0, none⟩)] 48)).alloc (.cells (ac zeroA).toArray 53)).setRow (w.heap.size + 1) (ac p).toArray := ⟨_, rfl⟩
  have hBA : W2.heap[w.heap.size + 1]? = some (.cells (ac p).toArray 53) := by
    rw [hW2]; exact setRow_heap _ _ _ _ _ _ (heap_two _ _ _)
  have htw : Touch [] w W2 := by
    rw [hW2]
    exact (ht2.mono (S' := [w.heap.size + 1]) (by simp)).trans hst (fun i hi => .inl hi) |>.mono (fun i hi => .inr (by rw [List.mem_singleton.1 hi]; omega))
  have hsz : W2.heap.size = w.heap.size + 2 := by rw [hW2]; simp
  have hBM : W2.heap[w.heap.size]? = some (.cells #[.pointer (some ⟨M, 0, none⟩)] 48) := by
    rw [hW2]
    refine (hst.block _ (by simp; omega) (by simp)).trans ?_
    rw [Below.heap_alloc _ _ _ (by simp)]
    exact heap_alloc_last w _
  have hBMl : w.heap.size < W2.heap.size := by omega
  have hBAl : w.heap.size + 1 < W2.heap.size := by omega
  have hst : Touch [M] W2 (W2.setCell ⟨M, 2, none⟩ (.func (.func 42) #[] #[.pointer (some ⟨w.heap.size, 0, none⟩)])) := Touch.setCell W2 (by simp) _
  have HF := Lib.hid (h.set htw (W1 := w.heap.size :: (w.heap.size + 1) :: W) (fun k hk => by simp [hk]) (fun k hk => by
    simp only [List.mem_cons] at hk
    rcases hk with rfl | rfl | hk
    · exact hBMl
    · exact hBAl
    · exact Nat.lt_of_lt_of_le (h.lt k hk) htw.size) (.func (.func 42) #[] #[.pointer (some ⟨w.heap.size, 0, none⟩)]) (fun q r e => by cases e; unfold NextIs; rw [if_neg (by omega), if_neg (by omega), if_pos hk]; exact ⟨w.heap.size, rfl, by simp, hBM⟩) (fun _ _ _ => by simp [h.mW]) (fun q r e => by cases e; unfold NextIs; rw [if_neg (by omega), if_neg (by omega), if_pos hk]; exact ⟨w.heap.size, rfl, by simp, (hst.block _ hBMl (by simp; omega)).trans hBM⟩))
  have HT := Lib.hid (show Touch [M] w (W2.setCell ⟨M, 2, none⟩ (.func (.func 42) #[] #[.pointer (some ⟨w.heap.size, 0, none⟩)])) from (htw.mono (by simp)).trans hst (fun k hk => .inl hk))
  have z0 := cell_at (heap_alloc_last w (.cells #[.pointer (some ⟨M, 0, none⟩)] 48)) 0
  have HRG := Lib.hid (range_touch hrg ht1 hgl (by simp))
  have HRG2 := Lib.hid (range_touch hrg ht2 hgl (by simp))
  have HAL := Lib.hid hal
  obtain ⟨_, _, c1, _, _⟩ := (h.kept0 ht1).cells
  obtain ⟨nv0, d0, d1, d2, f2⟩ := (h.kept0 htw).cells
  have y0 := cell_at hBM 0
  have k0 : W2.cell? ⟨w.heap.size + 1, 0, none⟩ = some (.int .u8 p.k) := cell_at hBA 0
  have hmf : ∀ (fn : Fn) (first cap : Array Value) (w : World), (Instr.makeFunc fn first cap).run Try.prog w = .ok (.func fn first cap) w := fun _ _ _ _ => rfl
  have hza := zeroAct
  have HZA := Lib.hid (show (ac zeroA).toArray.size = (ac p).toArray.size by rw [List.size_toArray, List.size_toArray, zeroA_length, hal])
  have HSz := Lib.hid (show (Try.prog.info? 53).map (·.size) = some (ac p).length by rw [hal]; exact sizeA)
  have HSz2 := Lib.hid (show (Try.prog.info? 53).map (·.size) = some (ac p).toArray.size by rw [List.size_toArray, hal]; exact sizeA)
  have e1 : (p.k == 1) = false := by simp; omega
  have e2 : (p.k == 2) = false := by simp; omega
  have e3 : (p.k == 3) = true := by simp; omega
  obtain ⟨n, hn⟩ : ∃ n, n = l.length := ⟨_, rfl⟩
  rw [← hn] at c1 d1 HF hl ⊢
  have n0 : (((n + 1 : Nat) : Int) == 0) = false := by simp; omega
  generalize hn1 : n + 1 = n1 at *
  have b1 : (0 : Int) < (n1 : Int) := by omega
  have HW2 := Lib.hid hW2
  have hOA := Lib.hid (all_oneCell_toArray (ac_one p))
  generalize (ac zeroA).toArray = ZA at *
  have HH2 := Lib.hid (heap_two w (.cells #[.pointer (some ⟨M, 0, none⟩)] 48) (.cells ZA 53))
  clear h ha hgl hrg hx hlM hal ht1 ht2 hst hBA htw hsz hBM hBMl hBAl hk hn hn1 hW2 hcap
  go_enter Try.func30, Try.ntmps30
  go_upto_region 4 with (first
    | (refine wpList_load_mid rfl 53 _ rfl g o rfl (ac p) _ HRG.out Try.underlying53 rfl HSz.out ?_)
    | (refine wpList_store_row rfl 53 _ _ rfl (w.heap.size + 1) (ac p).toArray rfl rfl 53 ZA HH2.out HSz2.out HZA.out hOA.out ?_))
  rw [← HW2.out]
  clear c1 z0
  go_wp2_with fail
  go_end0
  refine ⟨⟨_, rfl⟩, _, _, HF.out, HT.out, ?_, fun k hk => by simp [hk]⟩
  intro k hk
  simp only [List.mem_cons] at hk
  rcases hk with rfl | rfl | hk
  · exact .inr (Nat.le_refl _)
  · exact .inr (by omega)
  · exact .inl hk
#print axioms ready_flush
set_option maxRecDepth 100000 in
set_option maxHeartbeats 4000000 in
theorem ready_other {w : World} {M C g : Nat} {W : List Nat} {p : AT} {l : List AT} {v : Value} (h : MBare w M C g W (p :: l) v) (hl : l.length ≤ 1000000) (hk : p.k ≠ 1 ∧ p.k ≠ 2 ∧ p.k ≠ 3) : Calls Try.prog 30 #[.pointer (some ⟨M, 0, none⟩)] w (ReadyPost M C g W (p :: l) v w) := by
  have HB := Lib.hid h
  obtain ⟨a, cap, hv, hcap, _⟩ := h.acts
  rw [List.length_cons] at hv
  subst hv
  have ha := h.acts
  obtain ⟨_, o, rfl, hgl, hrg, hx⟩ := ha.first
  have hlM := h.lt M h.mW
  have hal := ac_length hx
  have ht1 := Touch.alloc [] w (.cells #[.pointer (some ⟨M, 0, none⟩)] 48)
  have ht2 := ht1.trans (Touch.alloc [] (w.alloc (.cells #[.pointer (some ⟨M, 0, none⟩)] 48)) (.cells (ac zeroA).toArray 53)) (by simp)
  have hst : Touch [w.heap.size + 1] ((w.alloc (.cells #[.pointer (some ⟨M, 0, none⟩)] 48)).alloc (.cells (ac zeroA).toArray 53)) (((w.alloc (.cells #[.pointer (some ⟨M, 0, none⟩)] 48)).alloc (.cells (ac zeroA).toArray 53)).setRow (w.heap.size + 1) (ac p).toArray) :=
    Touch.mono (S := [w.heap.size + 1]) (by
      have hb := below_setRow (Below.refl (w.heap.size + 1) ((w.alloc (.cells #[.pointer (some ⟨M, 0, none⟩)] 48)).alloc (.cells (ac zeroA).toArray 53))) (Nat.le_refl _) (ac p).toArray
      exact ⟨hb.os, hb.tape, hb.output, hb.size, fun k hk hm => hb.block k (by simp at hk hm; omega)⟩) (fun i hi => .inl hi)
  obtain ⟨W2, hW2⟩ : ∃ W2, W2 = ((w.alloc (.cells #[.pointer (some ⟨M, 0, none⟩)] 48)).alloc (.cells (ac zeroA).toArray 53)).setRow (w.heap.size + 1) (ac p).toArray := ⟨_, rfl⟩
  have hBA : W2.heap[w.heap.size + 1]? = some (.cells (ac p).toArray 53) := by
    rw [hW2]; exact setRow_heap _ _ _ _ _ _ (heap_two _ _ _)
  have htw : Touch [] w W2 := by
    rw [hW2]
    exact (ht2.mono (S' := [w.heap.size + 1]) (by simp)).trans hst (fun i hi => .inl hi) |>.mono (fun i hi => .inr (by rw [List.mem_singleton.1 hi]; omega))
  have hsz : W2.heap.size = w.heap.size + 2 := by rw [hW2]; simp
  have hBM : W2.heap[w.heap.size]? = some (.cells #[.pointer (some ⟨M, 0, none⟩)] 48) := by
    rw [hW2]
    refine (hst.block _ (by simp; omega) (by simp)).trans ?_
    rw [Below.heap_alloc _ _ _ (by simp)]
    exact heap_alloc_last w _
  have hBMl : w.heap.size < W2.heap.size := by omega
  have hBAl : w.heap.size + 1 < W2.heap.size := by omega
  have hst : Touch [M] W2 (W2.setCell ⟨M, 2, none⟩ (.func (.func 44) #[] #[])) := Touch.setCell W2 (by simp) _
  have HF := Lib.hid (h.set htw (W1 := w.heap.size :: (w.heap.size + 1) :: W) (fun k hk => by simp [hk]) (fun k hk => by
    simp only [List.mem_cons] at hk
    rcases hk with rfl | rfl | hk
    · exact hBMl
    · exact hBAl
    · exact Nat.lt_of_lt_of_le (h.lt k hk) htw.size) (.func (.func 44) #[] #[]) (fun q r e => by cases e; unfold NextIs; rw [if_neg hk.1, if_neg hk.2.1, if_neg hk.2.2]) (fun _ _ _ => by simp [h.mW]) (fun q r e => by cases e; unfold NextIs; rw [if_neg hk.1, if_neg hk.2.1, if_neg hk.2.2]))
  have HT := Lib.hid (show Touch [M] w (W2.setCell ⟨M, 2, none⟩ (.func (.func 44) #[] #[])) from (htw.mono (by simp)).trans hst (fun k hk => .inl hk))
  have z0 := cell_at (heap_alloc_last w (.cells #[.pointer (some ⟨M, 0, none⟩)] 48)) 0
  have HRG := Lib.hid (range_touch hrg ht1 hgl (by simp))
  have HRG2 := Lib.hid (range_touch hrg ht2 hgl (by simp))
  have HAL := Lib.hid hal
  obtain ⟨_, _, c1, _, _⟩ := (h.kept0 ht1).cells
  obtain ⟨nv0, d0, d1, d2, f2⟩ := (h.kept0 htw).cells
  have y0 := cell_at hBM 0
  have k0 : W2.cell? ⟨w.heap.size + 1, 0, none⟩ = some (.int .u8 p.k) := cell_at hBA 0
  have hmf : ∀ (fn : Fn) (first cap : Array Value) (w : World), (Instr.makeFunc fn first cap).run Try.prog w = .ok (.func fn first cap) w := fun _ _ _ _ => rfl
  have hza := zeroAct
  have HZA := Lib.hid (show (ac zeroA).toArray.size = (ac p).toArray.size by rw [List.size_toArray, List.size_toArray, zeroA_length, hal])
  have HSz := Lib.hid (show (Try.prog.info? 53).map (·.size) = some (ac p).length by rw [hal]; exact sizeA)
  have HSz2 := Lib.hid (show (Try.prog.info? 53).map (·.size) = some (ac p).toArray.size by rw [List.size_toArray, hal]; exact sizeA)
  have e1 : (p.k == 1) = false := by simp; omega
  have e2 : (p.k == 2) = false := by simp; omega
  have e3 : (p.k == 3) = false := by simp; omega
  obtain ⟨n, hn⟩ : ∃ n, n = l.length := ⟨_, rfl⟩
  rw [← hn] at c1 d1 HF hl ⊢
  have n0 : (((n + 1 : Nat) : Int) == 0) = false := by simp; omega
  generalize hn1 : n + 1 = n1 at *
  have b1 : (0 : Int) < (n1 : Int) := by omega
  have HW2 := Lib.hid hW2
  have hOA := Lib.hid (all_oneCell_toArray (ac_one p))
  generalize (ac zeroA).toArray = ZA at *
  have HH2 := Lib.hid (heap_two w (.cells #[.pointer (some ⟨M, 0, none⟩)] 48) (.cells ZA 53))
  clear h ha hgl hrg hx hlM hal ht1 ht2 hst hBA htw hsz hBM hBMl hBAl hk hn hn1 hW2 hcap
  go_enter Try.func30, Try.ntmps30
  go_upto_region 4 with (first
    | (refine wpList_load_mid rfl 53 _ rfl g o rfl (ac p) _ HRG.out Try.underlying53 rfl HSz.out ?_)
    | (refine wpList_store_row rfl 53 _ _ rfl (w.heap.size + 1) (ac p).toArray rfl rfl 53 ZA HH2.out HSz2.out HZA.out hOA.out ?_))
  rw [← HW2.out]
  clear c1 z0
  go_wp2_with fail
  go_end0
  refine ⟨⟨_, rfl⟩, _, _, HF.out, HT.out, ?_, fun k hk => by simp [hk]⟩
  intro k hk
  simp only [List.mem_cons] at hk
  rcases hk with rfl | rfl | hk
  · exact .inr (Nat.le_refl _)
  · exact .inr (by omega)
  · exact .inl hk
#print axioms ready_other
theorem ready_any {w : World} {M C g : Nat} {W : List Nat} {l : List AT} {v : Value} (h : MBare w M C g W l v) (hl : l.length ≤ 1000000) : Calls Try.prog 30 #[.pointer (some ⟨M, 0, none⟩)] w (ReadyPost M C g W l v w) := by
  cases l with
  | nil => exact ready_nil h
  | cons p l =>
    rw [List.length_cons] at hl
    by_cases c1 : p.k = 1
    · exact ready_back h (by omega) c1
    · by_cases c2 : p.k = 2
      · exact ready_write h (by omega) c2
      · by_cases c3 : p.k = 3
        · exact ready_flush h (by omega) c3
        · exact ready_other h (by omega) ⟨c1, c2, c3⟩
#print axioms ready_any
end Go.Proofs.Ytieknecbheeekaa
