/- quernlaw15.Trans: the walk. -/
import Derived.Test.YtlhhbkpocpnebaaP6
import Derived.Test.YtlhhbkpocpnebaaApp
set_option linter.unusedVariables false
set_option linter.unusedSimpArgs false
namespace Go.Proofs.Ytlhhbkpocpnebaa
open Go.RowKit Go.Maps

theorem mk_ints (w : World) : (Instr.buildSlice 53 0 #[]).run Try.prog w = .ok (.slice (some ⟨w.heap.size, 0, none⟩) 0 0) (w.alloc (.cells #[] 3)) := by kernel_rfl
theorem irow_empty (w : World) : IRow (w.alloc (.cells #[] 3)) (.slice (some ⟨w.heap.size, 0, none⟩) 0 0) [] :=
  ⟨by simp, by simp, .inr ⟨w.heap.size, 0, _, rfl, Nat.zero_le _, heap_alloc_last _ _, by simp, by simp, by simp, by simp⟩⟩
theorem IntsIn.src {w : World} {v : Value} {l : List Int} (h : IntsIn w v l) : Src w 1 v (l.map icell) := by
  obtain ⟨a, cap, rfl, h0, hi⟩ := h
  refine ⟨fun c hc => ?_, ?_⟩
  · obtain ⟨z, _, rfl⟩ := List.mem_map.1 hc
    exact ⟨rfl, fun u hu => by rw [List.mem_singleton.1 hu]; rfl⟩
  · cases a with
    | none =>
      have hl : l = [] := by
        cases l with
        | nil => rfl
        | cons z l => obtain ⟨y, hy, _⟩ := hi 0 z rfl; cases hy
      subst hl
      rw [h0 rfl]
      exact .inl ⟨rfl, rfl⟩
    | some ad =>
      refine .inr ⟨ad, cap, by simp, fun j u hj => ?_⟩
      rw [icells, List.getElem?_map] at hj
      cases hz : l[j]? with
      | none => rw [hz] at hj; cases hj
      | some z =>
        rw [hz] at hj
        obtain ⟨y, hy, _, hc, _⟩ := hi j z hz
        cases hy
        cases hj
        exact hc
theorem RowAt.grow {w w' : World} {y : Addr} {i : Nat} {p : PR} (h : RowAt w (y.add i) p) (hy : y.block < w.heap.size) (hg : Grow w w') : RowAt w' (y.add i) p :=
  ⟨(hg.cell (by rw [add_block']; exact hy)).trans h.1, (hg.cell (by rw [add_block', add_block']; exact hy)).trans h.2.1, (hg.cell (by rw [add_block', add_block']; exact hy)).trans h.2.2.1, h.2.2.2⟩
theorem RowsIn.at_ {w : World} {a : Option Addr} {n c : Nat} {l : List PR} (h : RowsIn w (.slice a n c) l) {k : Nat} {p : PR} (hp : l[k]? = some p) : ∃ y, a = some y ∧ y.block < w.heap.size ∧ RowAt w (y.add (k * 3)) p := by
  obtain ⟨a', c', hv, hi⟩ := h
  injection hv with e1 e2 e3
  subst e1
  exact hi k p hp
/-- a transaction told in short, whole -/
def rowsP (l : List PR) : List Cp := l.map fun r => (r.b, rowB r)
theorem rowsP_take {l : List PR} {k : Nat} {p : PR} (h : l[k]? = some p) : rowsP (l.take (k + 1)) = rowsP (l.take k) ++ [(p.b, rowB p)] := by
  unfold rowsP; rw [List.take_add_one, h, List.map_append]; rfl
/-- a round -/
structure QInv (w : World) (B : Nat) (s : Nat) (cs : List Cp) (vr : Value) (rs : List Int) (wr : World) : Prop where
  obj : ∃ vc, wr.heap[B]? = some (tObj s vc vr) ∧ CRow wr vc cs ∧ (∀ g, vc.ownBlock = some g → w.heap.size < g ∧ g ≠ B ∧ vr.ownBlock ≠ some g)
  rr : IRow wr vr rs
  rlo : ∀ g, vr.ownBlock = some g → w.heap.size < g ∧ g ≠ B
  grow : Grow w wr
  lo : w.heap.size < B
  out : ∃ Z : Array Value, Z.size = 3 ∧ wr.heap[w.heap.size]? = some (.cells Z 55)
theorem infoTr : (Try.prog.info? 55).map (fun i => (i.zero, i.size)) = some (some (.agg #[.int .u32 0, .slice none 0 0, .slice none 0 0]), 3) := by kernel_rfl
theorem zeroTr (w : World) : (zeroValue 55).run Try.prog w = .ok (.agg #[.int .u32 0, .slice none 0 0, .slice none 0 0]) w := (zero_of_info infoTr).1 w
theorem sizeTr : (Try.prog.info? 55).map (·.size) = some 3 := (zero_of_info infoTr).2
theorem QInv.start (w : World) (s : Nat) (rs : List Int) {vr : Value} {wa : World} (HL2 : (([] : List Int).map icell).length + (rs.map icell).length ≤ 1000000)
    (ha : AppAtE 3 1 ((w.alloc (.cells #[.int .u32 0, .slice none 0 0, .slice none 0 0] 55)).alloc (.cells #[] 3)) (.slice (some ⟨w.heap.size + 1, 0, none⟩) 0 0) (([] : List Int).map icell ++ rs.map icell) vr wa) (ht : Touch (ownL (.slice (some ⟨w.heap.size + 1, 0, none⟩) 0 0)) ((w.alloc (.cells #[.int .u32 0, .slice none 0 0, .slice none 0 0] 55)).alloc (.cells #[] 3)) wa) :
    QInv w wa.heap.size s [] vr rs (wa.alloc (.cells #[.int .u32 (s : Int), .slice none 0 0, vr] 55)) := by
  have hsz : w.heap.size + 1 < wa.heap.size := by have := ht.size; simp at this; omega
  have hg0 : Grow w wa := Below.trans (Grow.trans (Grow.alloc _ _) (Grow.alloc _ _)) (ht.below (by simp; omega) (fun j hj => by have := ownL_mem.1 hj; simp only [Value.ownBlock, Option.some.injEq] at this; omega))
  have hvr : ∀ g, vr.ownBlock = some g → w.heap.size < g ∧ g < wa.heap.size := by
    intro g e
    refine ⟨?_, Row.lt ha.1 e⟩
    rcases ha.2 with h1 | ⟨g', h1, h2⟩
    · rw [h1] at e; simp only [Value.ownBlock, Option.some.injEq] at e; omega
    · rw [h1] at e; cases e; simp at h2; omega
  have hrow : IRow wa vr rs := by have := ha.1; rw [List.map_nil, List.nil_append] at this; exact this
  refine { obj := ⟨_, heap_alloc_last _ _, rowNil _ _ _, fun g e => by cases e⟩, rr := hrow.grow (Grow.alloc _ _), rlo := fun g e => ⟨(hvr g e).1, by have := (hvr g e).2; omega⟩, grow := Grow.trans hg0 (Grow.alloc _ _), lo := by omega, out := ⟨#[.int .u32 0, .slice none 0 0, .slice none 0 0], rfl, ?_⟩ }
  have h1 : ((w.alloc (.cells #[.int .u32 0, .slice none 0 0, .slice none 0 0] 55)).alloc (.cells #[] 3)).heap[w.heap.size]? = _ := heap_one w _ _
  have h2 := (ht.block w.heap.size (by simp; omega) (fun hm => by have := ownL_mem.1 hm; simp only [Value.ownBlock, Option.some.injEq] at this; omega)).trans h1
  exact (Below.heap_alloc wa _ w.heap.size (by omega)).trans h2
theorem QInv.step {w wr wz : World} {B s : Nat} {cs : List Cp} {vc vr : Value} {rs : List Int} {c : Cp} (h : QInv w B s cs vr rs wr) (hob : wr.heap[B]? = some (tObj s vc vr)) (hl : ∀ g, vc.ownBlock = some g → w.heap.size < g ∧ g ≠ B ∧ vr.ownBlock ≠ some g) (ht : Touch (B :: ownL vc) wr wz) (hd : TDone s vr wr B vc (cs.map ccell ++ [ccell c]) undef wz) : QInv w B s (cs ++ [c]) vr rs wz := by
  obtain ⟨v, h1, h2⟩ := hd
  have hB : B < wr.heap.size := (Array.getElem?_eq_some_iff.1 hob).1
  have hm : ∀ g, g ∈ B :: ownL vc → g = B ∨ vc.ownBlock = some g := fun g hg => by rcases List.mem_cons.1 hg with h | h; exact .inl h; exact .inr (ownL_mem.1 h)
  refine { obj := ⟨v, h1, by unfold CRow; rw [List.map_append]; exact h2.1, ?_⟩, rr := Row.kept h.rr ht ?_, rlo := h.rlo, grow := Below.trans h.grow (ht.below h.grow.size ?_), lo := h.lo, out := ?_ }
  · intro g e
    rcases h2.2 with h3 | ⟨g', h3, h4⟩
    · exact hl g (h3 ▸ e)
    · rw [e] at h3; cases h3
      have h5 := h.grow.size
      exact ⟨by have := h.lo; omega, by omega, fun e2 => by have := Row.lt h.rr e2; omega⟩
  · intro g e hg
    rcases hm g hg with rfl | h3
    · exact (h.rlo _ e).2 rfl
    · exact (hl g h3).2.2 e
  · intro j hj
    rcases hm j hj with rfl | h3
    · exact Nat.le_of_lt h.lo
    · exact Nat.le_of_lt (hl j h3).1
  · obtain ⟨Z, hZ, hh⟩ := h.out
    refine ⟨Z, hZ, (ht.block _ (Array.getElem?_eq_some_iff.1 hh).1 (fun hg => ?_)).trans hh⟩
    rcases hm _ hg with h3 | h3
    · have := h.lo; omega
    · have := (hl _ h3).1; omega
theorem sizeT3 (a b c : Value) : (Try.prog.info? 55).map (·.size) = some (#[a, b, c] : Array Value).size := sizeTr
theorem oneT3 (s : Int) (a1 a2 : Option Addr) (n1 n2 c1 c2 : Nat) : (#[.int .u32 s, .slice a1 n1 c1, .slice a2 n2 c2] : Array Value).all (·.oneCell') = true := by simp [Value.oneCell']
def TransPost (s : Nat) (rows : List PR) (rs : List Int) (w : World) (e : Ending) (w' : World) : Prop := ∃ vc vr, e = .returned (.agg #[.int .u32 (s : Int), vc, vr]) ∧ CRow w' vc (rowsP rows) ∧ IRow w' vr rs ∧ Grow w w' ∧ (∀ g, vc.ownBlock = some g → w.heap.size ≤ g) ∧ (∀ g, vr.ownBlock = some g → w.heap.size ≤ g)
theorem QInv.done {w wr : World} {B s : Nat} {vc vr : Value} {rs : List Int} {rows : List PR} {cs' : List Cp} (h : QInv w B s cs' vr rs wr) (hc : CRow wr vc (rowsP rows)) (hl : ∀ g, vc.ownBlock = some g → w.heap.size < g) (X : Array Value) : CRow (wr.setRow w.heap.size X) vc (rowsP rows) ∧ IRow (wr.setRow w.heap.size X) vr rs ∧ Grow w (wr.setRow w.heap.size X) ∧ (∀ g, vc.ownBlock = some g → w.heap.size ≤ g) ∧ (∀ g, vr.ownBlock = some g → w.heap.size ≤ g) := by
  have ht : Touch [w.heap.size] wr (wr.setRow w.heap.size X) := ⟨rfl, rfl, rfl, by simp, fun k hk hn => setRow_other wr _ k _ (by simpa using hn)⟩
  exact ⟨Row.kept hc ht (fun g e hm => by have := hl g e; rw [List.mem_singleton.1 hm] at this; omega), Row.kept h.rr ht (fun g e hm => by have := (h.rlo g e).1; rw [List.mem_singleton.1 hm] at this; omega), below_setRow h.grow (Nat.le_refl _) X, fun g e => Nat.le_of_lt (hl g e), fun g e => Nat.le_of_lt (h.rlo g e).1⟩
set_option maxRecDepth 100000 in
set_option maxHeartbeats 8000000 in
theorem trans_ok {w : World} {v1 v2 : Value} {rows : List PR} {rs : List Int} (s : Nat) (h1 : RowsIn w v1 rows) (h2 : IntsIn w v2 rs) (hl1 : rows.length ≤ 100000) (hl2 : rs.length ≤ 100000) :
    Calls Try.prog 33 #[.int .u32 (s : Int), v1, v2] w (TransPost s rows rs w) := by
  have HR := Lib.hid h1
  obtain ⟨a1, c1, hv1, _⟩ := h1
  obtain ⟨n, hn⟩ : ∃ n, n = rows.length := ⟨_, rfl⟩
  have HN := Lib.hid hn
  rw [← hn] at hv1 hl1
  subst hv1
  obtain ⟨i0, hi0, hz0, hz1, hz2⟩ := info_parts info3
  have HI0 := Lib.hid hi0
  have hz := zeroTr
  have hmk := mk_ints
  have HE := Lib.hid (show IRow ((w.alloc (.cells #[.int .u32 0, .slice none 0 0, .slice none 0 0] 55)).alloc (.cells #[] 3)) (.slice (some ⟨w.heap.size + 1, 0, none⟩) 0 0) [] by
    have := irow_empty (w.alloc (.cells #[.int .u32 0, .slice none 0 0, .slice none 0 0] 55))
    simpa using this)
  have HS := Lib.hid (h2.src.grow (Grow.trans (Grow.alloc w (.cells #[.int .u32 0, .slice none 0 0, .slice none 0 0] 55)) (Grow.alloc _ (.cells #[] 3))))
  have HL2 := Lib.hid (show (([] : List Int).map icell).length + (rs.map icell).length ≤ 1000000 by rw [List.length_map, List.length_map, List.length_nil]; omega)
  obtain ⟨a2, c2, hv2, _⟩ := h2
  obtain ⟨n2, hn2⟩ : ∃ n2, n2 = rs.length := ⟨_, rfl⟩
  rw [← hn2] at hv2
  subst hv2
  clear hi0 hn hn2
  go_enter Try.func33, Try.ntmps33
  go_wp2_with (first | (at_builtin; refine wpList_append_rows rfl (.tmp 10) (.tmp 11) 53 rfl 3 i0 (.int .i64 0) 1 8 Try.underlying53 HI0.out hz0 hz1 hz2 rfl (by omega) (.slice (some ⟨w.heap.size + 1, 0, none⟩) 0 0) (.slice a2 n2 c2) _ _ rfl HE.out rfl HS.out HL2.out (by omega) ?_; intro vr wa happ htch; obtain ⟨ar, nr, cr, rfl⟩ := rowSlice happ.1))
  have HQ0 := Lib.hid (QInv.start w s rs (HL2 := HL2.out) happ htch)
  clear happ htch hmk
  obtain ⟨B, hB⟩ : ∃ B, B = wa.heap.size := ⟨_, rfl⟩
  rw [← hB] at HQ0 ⊢
  clear hB
  go_loopw [8] (fun t8 wr => ∃ k : Nat, t8 = .int .i64 (k : Int) ∧ k ≤ n ∧ Hid (QInv w B s (rowsP (rows.take k)) (.slice ar nr cr) rs wr)) (fun t8 _ => n - (intOf t8).toNat)
  case atStart => exact ⟨0, by go_num, by omega, HQ0⟩
  case round =>
    obtain ⟨k, rfl, hkn, HQ⟩ := hrel
    clear HQ0
    by_cases hk : k < n
    · obtain ⟨p, hp⟩ : ∃ p, rows[k]? = some p := ⟨rows[k]'(by rw [← HN.out]; exact hk), by simp⟩
      obtain ⟨y, rfl, hyb, hat⟩ := HR.out.at_ hp
      obtain ⟨vc, hob, hcr, hcl⟩ := HQ.out.obj
      have HP := Lib.hid hp
      have HOB := Lib.hid hob
      have HCR := Lib.hid hcr
      have HCL := Lib.hid hcl
      have HYS := Lib.hid (show y.block ∉ B :: ownL vc from fun hm => by
        have := HQ.out.lo
        rcases List.mem_cons.1 hm with h3 | h3
        · omega
        · have := (hcl _ (ownL_mem.1 h3)).1; omega)
      have HLT := Lib.hid (show ∀ j ∈ B :: ownL vc, j < wr.heap.size from fun j hj => by
        rcases List.mem_cons.1 hj with h3 | h3
        · rw [h3]; exact (Array.getElem?_eq_some_iff.1 hob).1
        · exact Row.lt hcr (ownL_mem.1 h3))
      have HYL := Lib.hid (Nat.lt_of_lt_of_le hyb HQ.out.grow.size)
      have HA := Lib.hid (hat.grow hyb HQ.out.grow)
      have HKN := Lib.hid hk
      have HWS := Lib.hid (show (rowsP (rows.take k)).length + 1 ≤ 1000000 by unfold rowsP; rw [List.length_map, List.length_take]; omega)
      clear hp hyb hat hob hcr hcl
      go_upto_region 5 with (fail)
      refine trans_reg5 B k n c1 s y p (rowsP (rows.take k)) (B :: ownL vc) vc (.slice ar nr cr) wr HKN (Lib.hid (by omega)) HYL HYS HA HOB HCR HLT (Lib.hid (by simp)) (Lib.hid (fun j hj => by simp [ownL_mem.2 hj])) (Lib.hid (fun g hg => (HCL.out g hg).2.1)) HWS _ _ _ _ _ _ _ _ _ _ _ _ _ _ _ _ _ _ _ _ _ _ _ _ _ _ _ _ _ _ _ _ _ _ (Lib.hid ?hk)
      case hk =>
        intro u20 u21 u22 u23 u24 u25 u26 u27 u28 u29 u30 u31 u32 u33 u34 u35 wz htz hd
        have HQ2 := Lib.hid (show QInv w B s (rowsP (rows.take (k + 1))) (.slice ar nr cr) rs wz by rw [rowsP_take HP.out]; exact HQ.out.step HOB.out HCL.out htz hd)
        clear htz hd
        go_wp2
        go_roundw
        case rel => exact ⟨k + 1, by go_num, by omega, HQ2⟩
        case measure => simp [intOf]; omega
    · obtain rfl : k = n := by omega
      obtain ⟨vc, hob, hcr, hcl⟩ := HQ.out.obj
      obtain ⟨Z, hZs, hZh⟩ := HQ.out.out
      obtain ⟨av, nv, cv, rfl⟩ := rowSlice hcr
      have HO := Lib.hid hob
      have HZS := Lib.hid hZs
      have HZH := Lib.hid hZh
      have HCR := Lib.hid (show CRow wr (.slice av nv cv) (rowsP rows) by rw [HN.out, List.take_length] at hcr; exact hcr)
      have HCL := Lib.hid (fun g e => (hcl g e).1)
      have HF := Lib.hid (QInv.done HQ.out HCR.out HCL.out #[.int .u32 (s : Int), .slice av nv cv, .slice ar nr cr])
      clear hob hcr hcl hZs hZh
      go_wp2_with (first | (refine wpList_load_row rfl _ _ rfl B rfl 55 #[.int .u32 (s : Int), .slice av nv cv, .slice ar nr cr] (0, 0) _ HO.out Try.underlying55 rfl (sizeT3 _ _ _) ?_) | (refine wpList_store_row rfl _ _ _ rfl w.heap.size #[.int .u32 (s : Int), .slice av nv cv, .slice ar nr cr] rfl rfl 55 Z HZH.out (sizeT3 _ _ _) (HZS.out.trans rfl) (oneT3 _ _ _ _ _ _ _) ?_))
      refine bodyPost_ret (results_cell_row rfl _ _ w.heap.size 55 #[.int .u32 (s : Int), .slice av nv cv, .slice ar nr cr] (0, 0) _ rfl (setRow_heap _ _ _ _ _ _ HZH.out) Try.underlying55 rfl (sizeT3 _ _ _)) rfl ⟨_, _, rfl, HF.out⟩
#print axioms trans_ok
end Go.Proofs.Ytlhhbkpocpnebaa
