/- Disk.Read: the walk. -/
import Derived.Test.YtlhhbkpocpnebaaD3
set_option linter.unusedVariables false
set_option linter.unusedSimpArgs false
namespace Go.Proofs.Ytlhhbkpocpnebaa
open Go.RowKit

theorem results_row_tmp {P : Program} {fn : Func} {p q : Tmp} {ty : TypeId} (h : fn.results = #[.cell p ty, .tmp q]) (tmps : Array Value) (w : World) (g : Nat) (t : TypeId) (cs : Array Value) (fr : Nat × Nat) (d : TypeDesc) (v : Value)
    (hp : tmps.getD p undef = .pointer (some ⟨g, 0, none⟩)) (hg : w.heap[g]? = some (.cells cs t fr))
    (hu : P.underlying ty = some d) (hd : (match d with | .struct _ | .array _ _ => true | _ => false) = true) (hi : (P.info? ty).map (·.size) = some cs.size) (hv : tmps.getD q undef = v) :
    (results fn tmps).run P w = .ok (.tuple #[.agg cs, v]) w := by
  have hp' : tmps[p]?.getD undef = .pointer (some ⟨g, 0, none⟩) := by simpa using hp
  have hv' : tmps[q]?.getD undef = v := by simpa using hv
  simp [results, h, hp', hv', asAddr, run_loadVar_row w g t ty cs fr d hg hu hd hi]
theorem Row.get {w : World} {e : Nat} {g n cap : Nat} {l : List Blk} (h : Row w e 256 (.slice (some ⟨g, 0, none⟩) n cap) (l.map bc)) (i : Nat) (hi : i < l.length) : w.rangeAt g (i * 256) (bc l[i]) :=
  h.range (by simp [hi])
theorem Row.len256 {w : World} {e : Nat} {v : Value} {l : List Blk} (h : Row w e 256 v (l.map bc)) (x : Blk) (hx : x ∈ l) : x.length = 256 := by
  rw [← bc_length]; exact h.1 _ (List.mem_map_of_mem hx)
theorem heap_row_one {w w1 : World} {o : Obj} (h : Grow (w.alloc o) w1) : w1.heap[w.heap.size]? = some o := (h.block _ (by simp)).trans (heap_alloc_last w o)

set_option maxHeartbeats 2000000 in
theorem read_ok {w : World} {B : Nat} {S : List Nat} {d : DS} (h : IsDisk w B S d) (b : Nat) (hb : b < d.last.length) (hd : d.dead = false) :
    Calls Try.prog 45 #[.pointer (some ⟨B, 0, none⟩), .int .i64 (b : Int)] w fun e w' => e = .returned (.tuple #[.agg (bc d.last[b]).toArray, .int .i64 0]) ∧ Grow w w' := by
  have hz := zero32
  have hzs := zero_size
  generalize (bc zeroB).toArray = Z at *
  have HZ := Lib.hid hzs
  obtain ⟨gs, cs, gl, cl, vw, h⟩ := h
  have ht : Touch [] w (w.alloc (.cells Z 29)) := Touch.alloc _ _ _
  have h1 := h.kept ht (by simp)
  have HD := Lib.hid (show IsDisk (w.alloc (.cells Z 29)) B S d from ⟨gs, cs, gl, cl, vw, h1⟩)
  have HW := Lib.hid (show d.why b = 0 by unfold DS.why; rw [hd, if_neg (by simp), if_pos ⟨by omega, by rw [← h.len]; omega⟩])
  obtain ⟨_, c1, _⟩ := h1.cells
  have HR := Lib.hid (h1.last.get b hb)
  have hbn : b < d.safe.length := by rw [← h.len]; exact hb
  have hm := h.most
  have hx := h.last.len256 _ (List.getElem_mem hb)
  obtain ⟨X, hX⟩ : ∃ X, X = d.last[b] := ⟨_, rfl⟩
  rw [← hX] at HR hx ⊢
  generalize d.safe.length = n at *
  have HXs := Lib.hid (show (bc X).length = 256 by rw [bc_length]; exact hx)
  have HSz := Lib.hid (show (Try.prog.info? 29).map (·.size) = some (bc X).toArray.size by rw [List.size_toArray, HXs.out]; exact size32)
  have HSo := Lib.hid (HZ.out.trans (show 256 = (bc X).toArray.size by rw [List.size_toArray, HXs.out]))
  have HO := Lib.hid (show (bc X).toArray.all (·.oneCell') = true from all_oneCell_toArray (bc_one _))
  clear h h1 ht hd hX hx hb hzs
  have b0 : (0 : Int) ≤ (b : Int) := by omega
  have b1 : (b : Int) < (n : Int) := by omega
  go_enter Try.func45, Try.ntmps45
  go_wp2_with fail
  refine (refuseAt_any HD.out b).mono ?_
  rintro e w' ⟨rfl, rfl⟩
  rw [HW.out]
  go_wp2_with (first | (refine wpList_load_mid rfl 29 _ rfl gl (b * 256) rfl (bc X) _ HR.out Try.underlying29 rfl (by rw [HXs.out]; exact size32) ?_) | (refine wpList_store_row rfl 29 _ _ rfl w.heap.size (bc X).toArray rfl rfl 29 Z (heap_alloc_last _ _) HSz.out HSo.out HO.out ?_))
  refine bodyPost_ret (results_row_tmp rfl _ _ w.heap.size 29 (bc X).toArray (0, 0) _ _ rfl (setRow_heap _ _ _ _ _ _ (heap_alloc_last _ _)) Try.underlying29 rfl HSz.out rfl) rfl ⟨rfl, below_setRow ((Below.refl _ _).alloc (Nat.le_refl _) _) (Nat.le_refl _) _⟩
#print axioms read_ok
/-- a disk that refuses, whatever the reason -/
theorem read_refused {w : World} {v : Value} (b c : Int) (hc : (c != 0) = true) (hr : ∀ w', Grow w w' → Calls Try.prog 59 #[v, .int .i64 b] w' fun e w'' => e = .returned (.int .i64 c) ∧ w' = w'') :
    Calls Try.prog 45 #[v, .int .i64 b] w fun e w' => e = .returned (.tuple #[.agg (bc zeroB).toArray, .int .i64 c]) ∧ Grow w w' := by
  have HB := Lib.hid (show Try.prog.built 29 [] = some (bc zeroB).toArray by kernel_rfl)
  have hz := zero32
  have hzs := zero_size
  have HO := Lib.hid (show (bc zeroB).toArray.all (·.oneCell') = true from all_oneCell_toArray (bc_one _))
  generalize (bc zeroB).toArray = Z at *
  have HZ := Lib.hid hzs
  have HSz := Lib.hid (show (Try.prog.info? 29).map (·.size) = some Z.size by rw [hzs]; exact size32)
  have HR := Lib.hid hr
  clear hr hzs
  go_enter Try.func45, Try.ntmps45
  go_wp2_with fail
  refine (HR.out _ (Grow.alloc _ _)).mono ?_
  rintro e w' ⟨rfl, rfl⟩
  go_wp2_with (first | ((refine wpList_build rfl 29 _ rfl (by rw [show (((#[] : Array (Nat × Operand)).map fun (i, x) => (i, Act.eval _ x)).toList) = [] from rfl, HB.out]; rfl) ?_); rw [show (((#[] : Array (Nat × Operand)).map fun (i, x) => (i, Act.eval _ x)).toList) = [] from rfl, HB.out, Option.getD_some]) | (refine wpList_store_row rfl 29 _ _ rfl w.heap.size Z rfl rfl 29 Z (heap_alloc_last _ _) HSz.out rfl HO.out ?_))
  refine bodyPost_ret (results_row_tmp rfl _ _ w.heap.size 29 Z (0, 0) _ _ rfl (setRow_heap _ _ _ _ _ _ (heap_alloc_last _ _)) Try.underlying29 rfl HSz.out rfl) rfl ⟨rfl, below_setRow ((Below.refl _ _).alloc (Nat.le_refl _) _) (Nat.le_refl _) _⟩
#print axioms read_refused
end Go.Proofs.Ytlhhbkpocpnebaa
