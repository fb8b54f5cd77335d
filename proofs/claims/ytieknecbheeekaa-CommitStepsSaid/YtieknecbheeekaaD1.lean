/- A disk in memory: what it is, and its small methods. -/
import Derived.Test.YtieknecbheeekaaRows
import Derived.Test.YtieknecbheeekaaMem
import Derived.WalkKit
import Derived.WalkSpells
import Derived.WalkLawsBesides
import Derived.Lib.Hide
import Derived.Deep.QuietTactic
import Derived.BigQuiet
import Derived.IntWalk
set_option linter.unusedVariables false
set_option linter.unusedSimpArgs false
namespace Go.Proofs.Ytieknecbheeekaa
open Go.RowKit

def Grow (w w' : World) : Prop := Below w.heap.size w w'
theorem Grow.refl (w : World) : Grow w w := Below.refl _ _
theorem Grow.trans {a b c : World} (h : Grow a b) (h' : Grow b c) : Grow a c := Below.trans h (Below.mono h' (Below.size h))
theorem Grow.alloc (w : World) (o : Obj) : Grow w (w.alloc o) := (Below.refl _ _).alloc (Nat.le_refl _) _
theorem Grow.drew (w : World) : Grow w w.drew := (Below.refl _ _).drew
theorem ret_int {k : IntKind} {a b : Int} (h : a = b) : Ending.returned (.int k a) = .returned (.int k b) := by rw [h]

abbrev Blk := List Nat
def bc (x : Blk) : List Value := x.map fun (b : Nat) => Value.int .u8 (b : Int)
def wc (p : Nat × Blk) : List Value := .int .i64 (p.1 : Int) :: bc p.2
theorem bc_length (x : Blk) : (bc x).length = x.length := by simp [bc]
theorem bc_one (x : Blk) : ∀ v ∈ bc x, v.oneCell' = true := by
  intro v hv
  obtain ⟨b, _, rfl⟩ := List.mem_map.1 hv
  rfl

structure DS where
  safe : List Blk
  last : List Blk
  ws : List (Nat × Blk)
  acts : Int
  set : Bool
  left : Int
/-- the object of a disk -/
def dObj (vs vl vw : Value) (d : DS) : Obj := .cells #[vs, vl, vw, .int .i64 d.acts, .bool d.set, .int .i64 d.left] 68
/-- what a disk's parts are -/
structure Parts (w : World) (B : Nat) (S : List Nat) (d : DS) (gs cs gl cl : Nat) (vw : Value) : Prop where
  obj : w.heap[B]? = some (dObj (.slice (some ⟨gs, 0, none⟩) d.safe.length cs) (.slice (some ⟨gl, 0, none⟩) d.safe.length cl) vw d)
  safe : Row w 44 256 (.slice (some ⟨gs, 0, none⟩) d.safe.length cs) (d.safe.map bc)
  last : Row w 44 256 (.slice (some ⟨gl, 0, none⟩) d.safe.length cl) (d.last.map bc)
  waits : Row w 93 257 vw (d.ws.map wc)
  len : d.last.length = d.safe.length
  one : 1 ≤ d.safe.length
  most : d.safe.length ≤ 2048
  inB : B ∈ S
  inS : gs ∈ S
  inL : gl ∈ S
  inW : ∀ g, vw.ownBlock = some g → g ∈ S
  bs : B ≠ gs
  bl : B ≠ gl
  sl : gs ≠ gl
  bw : ∀ g, vw.ownBlock = some g → g ≠ B ∧ g ≠ gs ∧ g ≠ gl
  lt : ∀ k ∈ S, k < w.heap.size
def IsDisk (w : World) (B : Nat) (S : List Nat) (d : DS) : Prop := ∃ gs cs gl cl vw, Parts w B S d gs cs gl cl vw

theorem cell_at {w : World} {B : Nat} {C : Array Value} {t : TypeId} (h : w.heap[B]? = some (.cells C t)) (j : Nat) : w.cell? ⟨B, j, none⟩ = C[j]? := by
  simp only [World.cell?, h]; rfl
theorem frozen_at {w : World} {B : Nat} {C : Array Value} {t : TypeId} (h : w.heap[B]? = some (.cells C t)) (j : Nat) : w.frozen? ⟨B, j, none⟩ = false := frozen_of_row w B j C t h
theorem Parts.cells {w : World} {B : Nat} {S : List Nat} {d : DS} {gs cs gl cl : Nat} {vw : Value} (h : Parts w B S d gs cs gl cl vw) :
    w.cell? ⟨B, 0, none⟩ = some (.slice (some ⟨gs, 0, none⟩) d.safe.length cs) ∧ w.cell? ⟨B, 1, none⟩ = some (.slice (some ⟨gl, 0, none⟩) d.safe.length cl) ∧ w.cell? ⟨B, 2, none⟩ = some vw ∧
    w.cell? ⟨B, 3, none⟩ = some (.int .i64 d.acts) ∧ w.cell? ⟨B, 4, none⟩ = some (.bool d.set) ∧ w.cell? ⟨B, 5, none⟩ = some (.int .i64 d.left) :=
  ⟨cell_at h.obj 0, cell_at h.obj 1, cell_at h.obj 2, cell_at h.obj 3, cell_at h.obj 4, cell_at h.obj 5⟩
theorem Parts.free {w : World} {B : Nat} {S : List Nat} {d : DS} {gs cs gl cl : Nat} {vw : Value} (h : Parts w B S d gs cs gl cl vw) (j : Nat) : w.frozen? ⟨B, j, none⟩ = false := frozen_at h.obj j

/-- a disk that lies apart stays -/
theorem Parts.kept {w w' : World} {B : Nat} {S T : List Nat} {d : DS} {gs cs gl cl : Nat} {vw : Value} (h : Parts w B S d gs cs gl cl vw) (ht : Touch T w w') (hn : ∀ k ∈ S, k ∉ T) : Parts w' B S d gs cs gl cl vw :=
  { h with
    obj := (ht.block B (h.lt B h.inB) (hn B h.inB)).trans h.obj
    safe := h.safe.kept ht (fun g e => by cases e; exact hn _ h.inS)
    last := h.last.kept ht (fun g e => by cases e; exact hn _ h.inL)
    waits := h.waits.kept ht (fun g e => hn g (h.inW g e))
    lt := fun k hk => Nat.lt_of_lt_of_le (h.lt k hk) ht.size }
theorem IsDisk.kept {w w' : World} {B : Nat} {S T : List Nat} {d : DS} (h : IsDisk w B S d) (ht : Touch T w w') (hn : ∀ k ∈ S, k ∉ T) : IsDisk w' B S d := by
  obtain ⟨gs, cs, gl, cl, vw, h⟩ := h
  exact ⟨gs, cs, gl, cl, vw, h.kept ht hn⟩

set_option maxHeartbeats 1000000 in
theorem made_yes {w : World} {B : Nat} {S : List Nat} {d : DS} (h : IsDisk w B S d) : Calls Try.prog 27 #[.pointer (some ⟨B, 0, none⟩)] w fun e w' => e = .returned (.bool true) ∧ w = w' := by
  obtain ⟨gs, cs, gl, cl, vw, h⟩ := h
  obtain ⟨c0, _⟩ := h.cells
  have h1 := h.one
  have h2 := h.most
  generalize d.safe.length = n at *
  have h3 : decide (0 < n) = true := by simp; omega
  clear h
  go_enter Try.func27, Try.ntmps27
  go_wp2
  go_ret
  exact ⟨rfl, rfl⟩
theorem made_nil (w : World) : Calls Try.prog 27 #[.pointer none] w fun e w' => e = .returned (.bool false) ∧ w = w' := by
  go_enter Try.func27, Try.ntmps27
  go_wp2
  go_ret
  exact ⟨rfl, rfl⟩
theorem made_empty {w : World} {B : Nat} (h : w.cell? ⟨B, 0, none⟩ = some (.slice none 0 0)) : Calls Try.prog 27 #[.pointer (some ⟨B, 0, none⟩)] w fun e w' => e = .returned (.bool false) ∧ w = w' := by
  go_enter Try.func27, Try.ntmps27
  go_wp2
  go_ret
  exact ⟨rfl, rfl⟩
def DS.dead (d : DS) : Bool := d.set && (d.left == 0)
set_option maxHeartbeats 1000000 in
theorem dead_any {w : World} {B : Nat} {S : List Nat} {d : DS} (h : IsDisk w B S d) : Calls Try.prog 50 #[.pointer (some ⟨B, 0, none⟩)] w fun e w' => e = .returned (.bool d.dead) ∧ w = w' := by
  have HD := Lib.hid h
  obtain ⟨gs, cs, gl, cl, vw, h⟩ := h
  obtain ⟨_, _, _, _, c4, c5⟩ := h.cells
  clear h
  have HE := Lib.hid (show d.dead = (d.set && (d.left == 0)) from rfl)
  generalize d.set = s at *
  generalize d.left = l at *
  cases s
  all_goals
    go_enter Try.func50, Try.ntmps50
    go_wp2_with fail
    refine (made_yes HD.out).mono ?_
    rintro e w' ⟨rfl, rfl⟩
    go_wp2_with fail
    go_ret
    exact ⟨by rw [HE.out]; rfl, rfl⟩

theorem refuse_ok {w : World} {B : Nat} {S : List Nat} {d : DS} (h : IsDisk w B S d) (hd : d.dead = false) : Calls Try.prog 49 #[.pointer (some ⟨B, 0, none⟩)] w fun e w' => e = .returned (.int .i64 0) ∧ w = w' := by
  have HD := Lib.hid h
  have HX := Lib.hid hd
  clear h hd
  go_enter Try.func49, Try.ntmps49
  go_wp2_with fail
  refine (made_yes HD.out).mono ?_
  rintro e w' ⟨rfl, rfl⟩
  go_wp2_with fail
  refine (dead_any HD.out).mono ?_
  rintro e w' ⟨rfl, rfl⟩
  rw [HX.out]
  go_wp2_with fail
  go_ret
  exact ⟨rfl, rfl⟩
theorem refuse_dead {w : World} {B : Nat} {S : List Nat} {d : DS} (h : IsDisk w B S d) (hd : d.dead = true) : Calls Try.prog 49 #[.pointer (some ⟨B, 0, none⟩)] w fun e w' => e = .returned (.int .i64 30) ∧ w = w' := by
  have HD := Lib.hid h
  have HX := Lib.hid hd
  clear h hd
  go_enter Try.func49, Try.ntmps49
  go_wp2_with fail
  refine (made_yes HD.out).mono ?_
  rintro e w' ⟨rfl, rfl⟩
  go_wp2_with fail
  refine (dead_any HD.out).mono ?_
  rintro e w' ⟨rfl, rfl⟩
  rw [HX.out]
  go_wp2_with fail
  go_ret
  exact ⟨rfl, rfl⟩
theorem refuse_no {w : World} {v : Value} (hv : Calls Try.prog 27 #[v] w fun e w' => e = .returned (.bool false) ∧ w = w') : Calls Try.prog 49 #[v] w fun e w' => e = .returned (.int .i64 1) ∧ w = w' := by
  have HV := Lib.hid hv
  clear hv
  go_enter Try.func49, Try.ntmps49
  go_wp2_with fail
  refine HV.out.mono ?_
  rintro e w' ⟨rfl, rfl⟩
  go_wp2_with fail
  go_ret
  exact ⟨rfl, rfl⟩
/-- why an act or a look at a block can't be done -/
def DS.why (d : DS) (b : Int) : Int := if d.dead then 30 else if 0 ≤ b ∧ b < d.safe.length then 0 else 2
set_option maxHeartbeats 1000000 in
theorem refuseAt_any {w : World} {B : Nat} {S : List Nat} {d : DS} (h : IsDisk w B S d) (b : Int) : Calls Try.prog 47 #[.pointer (some ⟨B, 0, none⟩), .int .i64 b] w fun e w' => e = .returned (.int .i64 (d.why b)) ∧ w = w' := by
  have HD := Lib.hid h
  obtain ⟨gs, cs, gl, cl, vw, h⟩ := h
  obtain ⟨c0, _⟩ := h.cells
  have hm := h.most
  clear h
  cases hdd : d.dead with
  | true =>
    have HX := Lib.hid hdd
    have HW := Lib.hid (show d.why b = 30 by unfold DS.why; rw [hdd]; rfl)
    clear hdd
    go_enter Try.func47, Try.ntmps47
    go_wp2_with fail
    refine (refuse_dead HD.out HX.out).mono ?_
    rintro e w' ⟨rfl, rfl⟩
    go_wp2_with fail
    go_ret
    exact ⟨ret_int HW.out.symm, rfl⟩
  | false =>
    have HX := Lib.hid hdd
    have HW := Lib.hid (show d.why b = if 0 ≤ b ∧ b < d.safe.length then 0 else 2 by unfold DS.why; rw [hdd]; rfl)
    clear hdd
    generalize d.safe.length = n at *
    by_cases h0 : b < 0
    · have HY := Lib.hid (show (if 0 ≤ b ∧ b < (n : Int) then (0 : Int) else 2) = 2 from if_neg (by omega))
      go_enter Try.func47, Try.ntmps47
      go_wp2_with fail
      refine (refuse_ok HD.out HX.out).mono ?_
      rintro e w' ⟨rfl, rfl⟩
      go_wp2_with fail
      go_ret
      exact ⟨ret_int (by rw [HW.out, HY.out]), rfl⟩
    · by_cases h1 : b < n
      · have HY := Lib.hid (show (if 0 ≤ b ∧ b < (n : Int) then (0 : Int) else 2) = 0 from if_pos (by omega))
        have d0 : decide (b < 0) = false := by simpa using h0
        have d1 : decide ((n : Int) ≤ b) = false := by simpa using h1
        go_enter Try.func47, Try.ntmps47
        go_wp2_with fail
        refine (refuse_ok HD.out HX.out).mono ?_
        rintro e w' ⟨rfl, rfl⟩
        go_wp2_with fail
        go_ret
        exact ⟨ret_int (by rw [HW.out, HY.out]), rfl⟩
      · have HY := Lib.hid (show (if 0 ≤ b ∧ b < (n : Int) then (0 : Int) else 2) = 2 from if_neg (by omega))
        have d0 : decide (b < 0) = false := by simpa using h0
        have d1 : decide ((n : Int) ≤ b) = true := by simp; omega
        go_enter Try.func47, Try.ntmps47
        go_wp2_with fail
        refine (refuse_ok HD.out HX.out).mono ?_
        rintro e w' ⟨rfl, rfl⟩
        go_wp2_with fail
        go_ret
        exact ⟨ret_int (by rw [HW.out, HY.out]), rfl⟩
theorem refuseAt_no {w : World} {v : Value} (b : Int) (hv : Calls Try.prog 27 #[v] w fun e w' => e = .returned (.bool false) ∧ w = w') : Calls Try.prog 47 #[v, .int .i64 b] w fun e w' => e = .returned (.int .i64 1) ∧ w = w' := by
  have HV := Lib.hid hv
  clear hv
  go_enter Try.func47, Try.ntmps47
  go_wp2_with fail
  refine (refuse_no HV.out).mono ?_
  rintro e w' ⟨rfl, rfl⟩
  go_wp2_with fail
  go_ret
  exact ⟨rfl, rfl⟩
theorem blocks_any {w : World} {B : Nat} {S : List Nat} {d : DS} (h : IsDisk w B S d) : Calls Try.prog 23 #[.pointer (some ⟨B, 0, none⟩)] w fun e w' => e = .returned (.int .i64 (d.safe.length : Int)) ∧ w = w' := by
  have HD := Lib.hid h
  obtain ⟨gs, cs, gl, cl, vw, h⟩ := h
  obtain ⟨c0, _⟩ := h.cells
  have hm := h.most
  clear h
  go_enter Try.func23, Try.ntmps23
  go_wp2_with fail
  refine (made_yes HD.out).mono ?_
  rintro e w' ⟨rfl, rfl⟩
  go_wp2_with fail
  go_ret
  exact ⟨rfl, rfl⟩
theorem acts_any {w : World} {B : Nat} {S : List Nat} {d : DS} (h : IsDisk w B S d) : Calls Try.prog 20 #[.pointer (some ⟨B, 0, none⟩)] w fun e w' => e = .returned (.int .i64 d.acts) ∧ w = w' := by
  have HD := Lib.hid h
  obtain ⟨gs, cs, gl, cl, vw, h⟩ := h
  obtain ⟨_, _, _, c3, _⟩ := h.cells
  clear h
  go_enter Try.func20, Try.ntmps20
  go_wp2_with fail
  refine (made_yes HD.out).mono ?_
  rintro e w' ⟨rfl, rfl⟩
  go_wp2_with fail
  go_ret
  exact ⟨rfl, rfl⟩
theorem Row.len {w : World} {e sz : Nat} {v : Value} {l : List (List Value)} (h : Row w e sz v l) : ∃ a cap, v = .slice a l.length cap := by
  rcases h.2.2 with ⟨h1, h2⟩ | ⟨g, cap, cur, hv, _⟩
  · exact ⟨none, 0, by rw [h1, h2]⟩
  · exact ⟨_, cap, hv⟩
theorem heap_set {w : World} {B : Nat} {C : Array Value} {t : TypeId} (h : w.heap[B]? = some (.cells C t)) (j : Nat) (v : Value) : (w.setCell ⟨B, j, none⟩ v).heap[B]? = some (.cells (C.setIfInBounds j v) t) := heap_setCell_same w B j C t v h
/-- a store of a number of the object itself -/
theorem Parts.put {w : World} {B : Nat} {S : List Nat} {d : DS} {gs cs gl cl : Nat} {vw : Value} (h : Parts w B S d gs cs gl cl vw) (j : Nat) (v : Value) (a : Int) (s : Bool) (l : Int)
    (he : (#[.slice (some ⟨gs, 0, none⟩) d.safe.length cs, .slice (some ⟨gl, 0, none⟩) d.safe.length cl, vw, .int .i64 d.acts, .bool d.set, .int .i64 d.left] : Array Value).setIfInBounds j v = #[.slice (some ⟨gs, 0, none⟩) d.safe.length cs, .slice (some ⟨gl, 0, none⟩) d.safe.length cl, vw, .int .i64 a, .bool s, .int .i64 l]) :
    Parts (w.setCell ⟨B, j, none⟩ v) B S { d with acts := a, set := s, left := l } gs cs gl cl vw := by
  have ht : Touch [B] w (w.setCell ⟨B, j, none⟩ v) := Touch.setCell w (by simp) v
  refine { h with obj := ?_, safe := ?_, last := ?_, waits := ?_, lt := ?_ }
  · rw [heap_set h.obj j v, he]; rfl
  · exact h.safe.kept ht (fun g e => by cases e; simpa using fun c => h.bs c.symm)
  · exact h.last.kept ht (fun g e => by cases e; simpa using fun c => h.bl c.symm)
  · exact h.waits.kept ht (fun g e => by simpa using (h.bw g e).1)
  · intro k hk; simpa using h.lt k hk
def DS.acted (d : DS) : DS := { d with acts := d.acts + 1, left := if d.set then d.left - 1 else d.left }
set_option maxHeartbeats 1000000 in
theorem act_any {w : World} {B : Nat} {S : List Nat} {d : DS} {gs cs gl cl : Nat} {vw : Value} (h : Parts w B S d gs cs gl cl vw) (ha : 0 ≤ d.acts ∧ d.acts ≤ 1000000) (hl : 0 ≤ d.left ∧ d.left ≤ 9223372036854775807) :
    Calls Try.prog 48 #[.pointer (some ⟨B, 0, none⟩)] w fun e w' => (∃ v, e = .returned v) ∧ Parts w' B S d.acted gs cs gl cl vw ∧ Touch [B] w w' := by
  have HP := Lib.hid h
  have H1 := Lib.hid (h.put 3 (.int .i64 (d.acts + 1)) (d.acts + 1) d.set d.left rfl)
  obtain ⟨_, _, _, c3, c4, c5⟩ := h.cells
  have f3 := h.free 3
  have f5 := h.free 5
  obtain ⟨_, _, _, _, e4, e5⟩ := H1.out.cells
  have g5 := H1.out.free 5
  dsimp only at e4 e5
  clear h
  cases hs : d.set with
  | false =>
    rw [hs] at c4 e4
    have HF := Lib.hid (show d.acted = { d with acts := d.acts + 1, set := d.set, left := d.left } by unfold DS.acted; rw [hs]; rfl)
    clear hs
    go_enter Try.func48, Try.ntmps48
    go_wp2
    go_end0
    exact ⟨⟨_, rfl⟩, by rw [HF.out]; exact H1.out, Touch.setCell w (by simp) _⟩
  | true =>
    rw [hs] at c4 e4
    have HF := Lib.hid (show d.acted = { d with acts := d.acts + 1, set := d.set, left := d.left - 1 } by unfold DS.acted; rw [hs]; rfl)
    have H2 := Lib.hid (H1.out.put 5 (.int .i64 (d.left - 1)) (d.acts + 1) d.set (d.left - 1) rfl)
    clear hs
    go_enter Try.func48, Try.ntmps48
    go_wp2
    go_end0
    exact ⟨⟨_, rfl⟩, by rw [HF.out]; exact H2.out, (Touch.setCell w (by simp) _).trans (Touch.setCell (S := [B]) _ (by simp) _) (fun i hi => .inl hi)⟩
end Go.Proofs.Ytieknecbheeekaa
