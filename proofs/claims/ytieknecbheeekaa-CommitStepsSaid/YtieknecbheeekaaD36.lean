/- The document's disk in memory, and its small methods. -/
import Derived.Test.YtieknecbheeekaaD24
set_option linter.unusedVariables false
set_option linter.unusedSimpArgs false
namespace Go.Proofs.Ytieknecbheeekaa
open Go.RowKit

/-- what the document's disk's parts are: what is safe, what waits, how many are done, how many are left -/
structure RDk (w : World) (R : Nat) (T : List Nat) (l : List Blk) (ws : List (Nat × Blk)) (a f : Int) (g c : Nat) (vw : Value) : Prop where
  obj : w.heap[R]? = some (.cells #[.slice (some ⟨g, 0, none⟩) l.length c, vw, .int .i64 a, .int .i64 f] 63)
  row : Row w 44 256 (.slice (some ⟨g, 0, none⟩) l.length c) (l.map bc)
  waits : Row w 90 257 vw (ws.map wc)
  one : 1 ≤ l.length
  most : l.length ≤ 2048
  inR : R ∈ T
  inG : g ∈ T
  inW : ∀ k, vw.ownBlock = some k → k ∈ T
  rg : R ≠ g
  bw : ∀ k, vw.ownBlock = some k → k ≠ R ∧ k ≠ g
  lt : ∀ k ∈ T, k < w.heap.size
theorem RDk.cells {w : World} {R : Nat} {T : List Nat} {l : List Blk} {ws : List (Nat × Blk)} {a f : Int} {g c : Nat} {vw : Value} (h : RDk w R T l ws a f g c vw) :
    w.cell? ⟨R, 0, none⟩ = some (.slice (some ⟨g, 0, none⟩) l.length c) ∧ w.cell? ⟨R, 1, none⟩ = some vw ∧ w.cell? ⟨R, 2, none⟩ = some (.int .i64 a) ∧ w.cell? ⟨R, 3, none⟩ = some (.int .i64 f) :=
  ⟨cell_at h.obj 0, cell_at h.obj 1, cell_at h.obj 2, cell_at h.obj 3⟩
theorem RDk.free {w : World} {R : Nat} {T : List Nat} {l : List Blk} {ws : List (Nat × Blk)} {a f : Int} {g c : Nat} {vw : Value} (h : RDk w R T l ws a f g c vw) (j : Nat) : w.frozen? ⟨R, j, none⟩ = false := frozen_at h.obj j
theorem RDk.kept {w w' : World} {R : Nat} {T U : List Nat} {l : List Blk} {ws : List (Nat × Blk)} {a f : Int} {g c : Nat} {vw : Value} (h : RDk w R T l ws a f g c vw) (ht : Touch U w w') (hn : ∀ k ∈ T, k ∉ U) : RDk w' R T l ws a f g c vw :=
  { h with
    obj := (ht.block R (h.lt R h.inR) (hn R h.inR)).trans h.obj
    row := h.row.kept ht (fun k e => by cases e; exact hn _ h.inG)
    waits := h.waits.kept ht (fun k e => hn k (h.inW k e))
    lt := fun k hk => Nat.lt_of_lt_of_le (h.lt k hk) ht.size }
theorem RDk.setA {w : World} {R : Nat} {T : List Nat} {l : List Blk} {ws : List (Nat × Blk)} {a f : Int} {g c : Nat} {vw : Value} (h : RDk w R T l ws a f g c vw) (a' : Int) : RDk (w.setCell ⟨R, 2, none⟩ (.int .i64 a')) R T l ws a' f g c vw := by
  have ht : Touch [R] w (w.setCell ⟨R, 2, none⟩ (.int .i64 a')) := Touch.setCell w (by simp) _
  exact { h with
    obj := by rw [heap_set h.obj 2 _]; rfl
    row := h.row.kept ht (fun k e => by cases e; simpa using fun c => h.rg c.symm)
    waits := h.waits.kept ht (fun k e => by simpa using (h.bw k e).1)
    lt := fun k hk => by simpa using h.lt k hk }
theorem RDk.setF {w : World} {R : Nat} {T : List Nat} {l : List Blk} {ws : List (Nat × Blk)} {a f : Int} {g c : Nat} {vw : Value} (h : RDk w R T l ws a f g c vw) (f' : Int) : RDk (w.setCell ⟨R, 3, none⟩ (.int .i64 f')) R T l ws a f' g c vw := by
  have ht : Touch [R] w (w.setCell ⟨R, 3, none⟩ (.int .i64 f')) := Touch.setCell w (by simp) _
  exact { h with
    obj := by rw [heap_set h.obj 3 _]; rfl
    row := h.row.kept ht (fun k e => by cases e; simpa using fun c => h.rg c.symm)
    waits := h.waits.kept ht (fun k e => by simpa using (h.bw k e).1)
    lt := fun k hk => by simpa using h.lt k hk }
theorem RDk.noW {w : World} {R : Nat} {T : List Nat} {l : List Blk} {ws : List (Nat × Blk)} {a f : Int} {g c : Nat} {vw : Value} (h : RDk w R T l ws a f g c vw) : RDk (w.setCell ⟨R, 1, none⟩ (.slice none 0 0)) R T l [] a f g c (.slice none 0 0) := by
  have ht : Touch [R] w (w.setCell ⟨R, 1, none⟩ (.slice none 0 0)) := Touch.setCell w (by simp) _
  exact { h with
    obj := by rw [heap_set h.obj 1 _]; rfl
    row := h.row.kept ht (fun k e => by cases e; simpa using fun c => h.rg c.symm)
    waits := ⟨fun c hc => (by cases hc), World.ownsRow_nil _ _ _ _⟩
    inW := fun k hk => (by cases hk)
    bw := fun k hk => (by cases hk)
    lt := fun k hk => by simpa using h.lt k hk }
/-- another row of blocks is laid into it -/
theorem RDk.setL {w : World} {R : Nat} {T : List Nat} {l : List Blk} {ws : List (Nat × Blk)} {a f : Int} {g c : Nat} {vw : Value} (h : RDk w R T l ws a f g c vw) {g' c' : Nat} {l' : List Blk} (hl : l'.length = l.length) (hr : Row w 44 256 (.slice (some ⟨g', 0, none⟩) l.length c') (l'.map bc)) (hg : g' ∉ T) (hlt : g' < w.heap.size) :
    RDk (w.setCell ⟨R, 0, none⟩ (.slice (some ⟨g', 0, none⟩) l.length c')) R (g' :: T) l' ws a f g' c' vw := by
  have ht : Touch [R] w (w.setCell ⟨R, 0, none⟩ (.slice (some ⟨g', 0, none⟩) l.length c')) := Touch.setCell w (by simp) _
  have hR : g' ≠ R := fun e => hg (e ▸ h.inR)
  exact {
    obj := by rw [heap_set h.obj 0 _, hl]; rfl
    row := by rw [hl]; exact hr.kept ht (fun k e => by cases e; simpa using hR)
    waits := h.waits.kept ht (fun k e => by simpa using (h.bw k e).1)
    one := by rw [hl]; exact h.one
    most := by rw [hl]; exact h.most
    inR := List.mem_cons_of_mem _ h.inR
    inG := List.mem_cons_self ..
    inW := fun k hk => List.mem_cons_of_mem _ (h.inW k hk)
    rg := fun e => hR e.symm
    bw := fun k hk => ⟨(h.bw k hk).1, fun e => hg (e ▸ h.inW k hk)⟩
    lt := fun k hk => by
      rcases List.mem_cons.1 hk with rfl | hk
      · simpa using hlt
      · simpa using h.lt k hk }
/-- how many acts are left, as the document says it -/
def DS.rl (d : DS) : Int := if d.set then d.left else -1
def IsRef (w : World) (R : Nat) (T : List Nat) (d : DS) : Prop := ∃ g c vw, RDk w R T d.safe d.ws d.acts d.rl g c vw
theorem IsRef.kept {w w' : World} {R : Nat} {T U : List Nat} {d : DS} (h : IsRef w R T d) (ht : Touch U w w') (hn : ∀ k ∈ T, k ∉ U) : IsRef w' R T d := by
  obtain ⟨g, c, vw, h⟩ := h
  exact ⟨g, c, vw, h.kept ht hn⟩
theorem DS.rl_dead (d : DS) : (d.rl == 0) = d.dead := by
  unfold DS.rl DS.dead
  cases d.set <;> simp
set_option maxHeartbeats 1000000 in
theorem rdead_ok {w : World} {R : Nat} {T : List Nat} {d : DS} (h : IsRef w R T d) : Calls Try.prog 45 #[.pointer (some ⟨R, 0, none⟩)] w fun e w' => e = .returned (.bool d.dead) ∧ w = w' := by
  obtain ⟨g, c, vw, h⟩ := h
  have c3 := h.cells.2.2.2
  have he := d.rl_dead
  generalize d.dead = x at *
  generalize d.rl = y at *
  clear h
  go_enter Try.func45, Try.ntmps45
  go_wp2_with fail
  go_ret
  exact ⟨rfl, rfl⟩
set_option maxHeartbeats 1000000 in
theorem ract_ok {w : World} {R : Nat} {T : List Nat} {l : List Blk} {ws : List (Nat × Blk)} {a f : Int} {g c : Nat} {vw : Value} (h : RDk w R T l ws a f g c vw) (ha : 0 ≤ a ∧ a ≤ 1000000) (hf : -1 ≤ f ∧ f ≤ 9223372036854775807) :
    Calls Try.prog 46 #[.pointer (some ⟨R, 0, none⟩)] w fun e w' => (∃ v, e = .returned v) ∧ RDk w' R T l ws (a + 1) (if 0 < f then f - 1 else f) g c vw ∧ Touch [R] w w' := by
  have H1 := Lib.hid (h.setA (a + 1))
  obtain ⟨_, _, c2, _⟩ := h.cells
  have f2 := h.free 2
  obtain ⟨_, _, _, e3⟩ := H1.out.cells
  have f3 := H1.out.free 3
  clear h
  by_cases hp : 0 < f
  · have d1 : decide (0 < f) = true := by simpa using hp
    have H2 := Lib.hid (H1.out.setF (f - 1))
    go_enter Try.func46, Try.ntmps46
    go_wp2_with fail
    go_end0
    exact ⟨⟨_, rfl⟩, H2.out, (Touch.setCell w (by simp) _).trans (Touch.setCell (S := [R]) _ (by simp) _) (fun i hi => .inl hi)⟩
  · have d1 : decide (0 < f) = false := by simpa using hp
    go_enter Try.func46, Try.ntmps46
    go_wp2_with fail
    go_end0
    exact ⟨⟨_, rfl⟩, H1.out, Touch.setCell w (by simp) _⟩
theorem DS.rl_acted (d : DS) (hd : d.dead = false) (hl : 0 ≤ d.left) : d.acted.rl = if 0 < d.rl then d.rl - 1 else d.rl := by
  unfold DS.rl DS.acted
  unfold DS.dead at hd
  cases hs : d.set
  · simp
  · rw [hs] at hd; simp at hd; simp; omega
set_option maxHeartbeats 1000000 in
theorem rpower_ok {w : World} {R : Nat} {T : List Nat} {d : DS} (h : IsRef w R T d) (a : Int) : Calls Try.prog 11 #[.pointer (some ⟨R, 0, none⟩), .int .i64 a] w fun e w' => (∃ v, e = .returned v) ∧ IsRef w' R T (d.powered a) ∧ Touch [R] w w' := by
  obtain ⟨g, c, vw, h⟩ := h
  have H1 := Lib.hid (h.setF a)
  have c3 := h.cells.2.2.2
  have f3 := h.free 3
  have e3 := H1.out.cells.2.2.2
  have k3 := H1.out.free 3
  clear h
  by_cases hp : a < 0
  · have d1 : decide (a < 0) = true := by simpa using hp
    have H2 := Lib.hid (H1.out.setF (-1))
    have HF := Lib.hid (show (d.powered a).rl = -1 by unfold DS.rl DS.powered; simp; omega)
    go_enter Try.func11, Try.ntmps11
    go_wp2_with fail
    go_end0
    exact ⟨⟨_, rfl⟩, ⟨g, c, vw, by rw [HF.out]; exact H2.out⟩, (Touch.setCell w (by simp) _).trans (Touch.setCell (S := [R]) _ (by simp) _) (fun i hi => .inl hi)⟩
  · have d1 : decide (a < 0) = false := by simpa using hp
    have HF := Lib.hid (show (d.powered a).rl = a by unfold DS.rl DS.powered; simp; omega)
    go_enter Try.func11, Try.ntmps11
    go_wp2_with fail
    go_end0
    exact ⟨⟨_, rfl⟩, ⟨g, c, vw, by rw [HF.out]; exact H1.out⟩, Touch.setCell w (by simp) _⟩
#print axioms rpower_ok
end Go.Proofs.Ytieknecbheeekaa
