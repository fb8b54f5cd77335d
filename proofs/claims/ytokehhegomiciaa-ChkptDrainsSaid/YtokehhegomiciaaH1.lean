/- A list of committed transactions: plainly, and in memory; is, Len. -/
import Derived.Test.YtokehhegomiciaaGR
set_option linter.unusedVariables false
set_option linter.unusedSimpArgs false
namespace Go.Proofs.Ytokehhegomiciaa
open Go.RowKit Go.Maps

/-! ### plainly -/
def CpOk (c : Cp) : Prop := IntOk c.1 ∧ c.2.length = 256
/-- a committed transaction: where it stands, its copies, those that are left -/
structure CT where
  seq : Nat
  start : Int
  count : Int
  cs : List Cp
  left : List Cp
structure CT.ok (t : CT) : Prop where
  cs : ∀ c ∈ t.cs, CpOk c ∧ 0 ≤ c.1
  lt : (t.cs.map (·.1)).Pairwise (· < ·)
  sub : t.left.Sublist t.cs
  len : t.cs.length ≤ 600
  seq : t.seq < 4294967296
  start : IntOk t.start
  count : IntOk t.count
structure G4 where
  gr : Int
  sz : Int
  ni : Int
  jr : Int
structure CS where
  added : Bool
  last : Nat
  all : List CT
def forgetL (b : Int) (l : List Cp) : List Cp := l.filter fun c => decide (c.1 ≠ b)
def CT.forget (b : Int) (t : CT) : CT := { t with left := forgetL b t.left }
def CS.forget (b : Int) (s : CS) : CS := { s with all := s.all.map (CT.forget b) }
def pr (l : List Cp) : List (Int × Cp) := l.map fun c => (c.1, c)
theorem pr_del (l : List Cp) (b : Int) : delA (pr l) b = pr (forgetL b l) := by unfold delA pr forgetL; rw [List.filter_map]; rfl
theorem keys_pr (l : List Cp) : keysA (pr l) = l.map (·.1) := by unfold keysA pr; rw [List.map_map]; rfl
theorem CT.ok.forget {t : CT} (h : t.ok) (b : Int) : (t.forget b).ok :=
  ⟨h.cs, h.lt, (List.filter_sublist ..).trans h.sub, h.len, h.seq, h.start, h.count⟩
theorem CT.ok.left_le {t : CT} (h : t.ok) : t.left.length ≤ 600 := Nat.le_trans h.sub.length_le h.len

/-! ### in memory -/
/-- a transaction, and where its rows lie -/
structure CV where
  t : CT
  vb : Value
  m : Nat
def CV.setL (x : CV) (l : List Cp) : CV := ⟨⟨x.t.seq, x.t.start, x.t.count, x.t.cs, l⟩, x.vb, x.m⟩
def tc5 (x : CV) : List Value := [.int .u32 (x.t.seq : Int), .int .i64 x.t.start, .int .i64 x.t.count, x.vb, .map (some x.m)]
structure CVIs (w : World) (x : CV) : Prop where
  map : MapIs w copyK x.m 600 (pr x.t.left)
  bl : IRow w x.vb (x.t.cs.map (·.1))
  ok : x.t.ok
def lcells (g : G4) (added : Bool) (last : Nat) (va : Value) : List Value := [.bool true, .int .i64 g.gr, .int .i64 g.sz, .int .i64 g.ni, .int .i64 g.jr, .bool added, .int .u32 (last : Int), va]
structure LI (w : World) (B : Nat) (g : G4) (added : Bool) (last : Nat) (va : Value) (xs : List CV) : Prop where
  obj : w.heap[B]? = some (.cells (lcells g added last va).toArray 71)
  row : GRow w 82 5 va (xs.map tc5)
  is : ∀ x ∈ xs, CVIs w x
  nd : (xs.map (·.m)).Nodup
  len : xs.length ≤ 1000
/-- the list, and all blocks that are its own -/
structure LSt (w : World) (B : Nat) (g : G4) (s : CS) (T : List Nat) (va : Value) (xs : List CV) : Prop where
  li : LI w B g s.added s.last va xs
  all : xs.map (·.t) = s.all
  b : B ∈ T
  a : ∀ k, va.ownBlock = some k → k ∈ T
  m : ∀ x ∈ xs, x.m ∈ T
  v : ∀ x ∈ xs, ∀ k, x.vb.ownBlock = some k → k ∈ T
theorem CVIs.kept {w w' : World} {x : CV} (h : CVIs w x) {S : List Nat} (ht : Touch S w w') (hm : x.m ∉ S) (hv : ∀ k, x.vb.ownBlock = some k → k ∉ S) : CVIs w' x := ⟨h.map.kept ht hm, Row.kept h.bl ht hv, h.ok⟩
theorem LSt.kept {w w' : World} {B : Nat} {g : G4} {s : CS} {T : List Nat} {va : Value} {xs : List CV} (h : LSt w B g s T va xs) {S : List Nat} (ht : Touch S w w') (hn : ∀ k ∈ T, k ∉ S) : LSt w' B g s T va xs :=
  { h with li := ⟨(ht.block B (Array.getElem?_eq_some_iff.1 h.li.obj).1 (hn _ h.b)).trans h.li.obj, h.li.row.kept ht (fun k hk => hn k (h.a k hk)), fun x hx => (h.li.is x hx).kept ht (hn _ (h.m x hx)) (fun k hk => hn k (h.v x hx k hk)), h.li.nd, h.li.len⟩ }
theorem LSt.grow {w w' : World} {B : Nat} {g : G4} {s : CS} {T : List Nat} {va : Value} {xs : List CV} (h : LSt w B g s T va xs) (hg : Grow w w') : LSt w' B g s T va xs := h.kept (S := []) (Touch.of_below hg) (by simp)
theorem LSt.more {w : World} {B : Nat} {g : G4} {s : CS} {T T' : List Nat} {va : Value} {xs : List CV} (h : LSt w B g s T va xs) (hs : ∀ k ∈ T, k ∈ T') : LSt w B g s T' va xs :=
  { h with b := hs _ h.b, a := fun k hk => hs k (h.a k hk), m := fun x hx => hs _ (h.m x hx), v := fun x hx k hk => hs k (h.v x hx k hk) }
theorem LSt.rowlen {w : World} {B : Nat} {g : G4} {s : CS} {T : List Nat} {va : Value} {xs : List CV} (h : LSt w B g s T va xs) : xs.length = s.all.length := by rw [← h.all, List.length_map]
theorem LSt.va {w : World} {B : Nat} {g : G4} {s : CS} {T : List Nat} {va : Value} {xs : List CV} (h : LSt w B g s T va xs) : ∃ a cap, va = .slice a s.all.length cap := by
  obtain ⟨a, cap, hv⟩ := h.li.row.len
  rw [List.length_map, h.rowlen] at hv
  exact ⟨a, cap, hv⟩
theorem map_ne_cells {w : World} {α : Type} {K : EK α} {m N : Nat} {l : List (Int × α)} (h : MapIs w K m N l) {k : Nat} {e : TypeId} (hk : KindAt w k e) : k ≠ m := by
  rintro rfl
  obtain ⟨D, ⟨es, clock, hb, _⟩, _⟩ := h
  obtain ⟨C, hk⟩ := hk
  rw [hb] at hk
  cases hk
theorem IRow.kind {w : World} {v : Value} {zs : List Int} (h : IRow w v zs) {k : Nat} (hk : v.ownBlock = some k) : KindAt w k 3 := (Row.g h).lt hk
theorem LI.kindB {w : World} {B : Nat} {g : G4} {ad : Bool} {la : Nat} {va : Value} {xs : List CV} (h : LI w B g ad la va xs) : KindAt w B 71 := ⟨_, h.obj⟩
/-- one transaction's left copies turn -/
theorem LI.set {w w' : World} {B : Nat} {g : G4} {ad : Bool} {la : Nat} {va : Value} {xs : List CV} (h : LI w B g ad la va xs) {k : Nat} {x : CV} (hk : xs[k]? = some x) {l : List Cp} (ht : Touch [x.m] w w') (hm : MapIs w' copyK x.m 600 (pr l)) (hs : l.Sublist x.t.cs) :
    LI w' B g ad la va (xs.set k (x.setL l)) := by
  have hx := h.is x (List.mem_of_getElem? hk)
  have hkl := (List.getElem?_eq_some_iff.1 hk).1
  have htc : (xs.set k (x.setL l)).map tc5 = xs.map tc5 := by
    rw [List.map_set]
    apply List.ext_getElem?
    intro j
    rw [List.getElem?_set]
    split
    · rename_i e
      subst e
      rw [if_pos (by rw [List.length_map]; exact hkl), List.getElem?_map, hk]; rfl
    · rfl
  have hmm : (xs.set k (x.setL l)).map (·.m) = xs.map (·.m) := by
    rw [List.map_set]
    apply List.ext_getElem?
    intro j
    rw [List.getElem?_set]
    split
    · rename_i e
      subst e
      rw [if_pos (by rw [List.length_map]; exact hkl), List.getElem?_map, hk]; rfl
    · rfl
  refine ⟨(ht.block B (Array.getElem?_eq_some_iff.1 h.obj).1 (by simpa using map_ne_cells hx.map h.kindB)).trans h.obj, ?_, ?_, by rw [hmm]; exact h.nd, by rw [List.length_set]; exact h.len⟩
  · rw [htc]
    exact h.row.kept ht (fun q hq => by simpa using map_ne_cells hx.map (h.row.lt hq))
  · intro y hy
    obtain ⟨j, hj⟩ := List.mem_iff_getElem?.1 hy
    by_cases e : k = j
    · subst e
      rw [List.getElem?_set_self hkl] at hj
      cases hj
      exact ⟨hm, Row.kept hx.bl ht (fun q hq => by simpa using map_ne_cells hx.map (IRow.kind hx.bl hq)), ⟨hx.ok.cs, hx.ok.lt, hs, hx.ok.len, hx.ok.seq, hx.ok.start, hx.ok.count⟩⟩
    · rw [List.getElem?_set_ne e] at hj
      have hy := h.is y (List.mem_of_getElem? hj)
      refine hy.kept ht ?_ (fun q hq => by simpa using map_ne_cells hx.map (IRow.kind hy.bl hq))
      intro hmem
      have he : y.m = x.m := by simpa using hmem
      have h1 : (xs.map (·.m))[j]? = some x.m := by rw [List.getElem?_map, hj]; simp [he]
      have h2 : (xs.map (·.m))[k]? = some x.m := by rw [List.getElem?_map, hk]; rfl
      have hlt := (List.getElem?_eq_some_iff.1 h2).1
      exact e ((List.getElem?_inj hlt h.nd).1 (h2.trans h1.symm))
/-- an element, and the cells of its transaction -/
theorem LI.elem {w : World} {B : Nat} {g : G4} {ad : Bool} {la : Nat} {a : Option Addr} {n cap : Nat} {xs : List CV} (h : LI w B g ad la (.slice a n cap) xs) {k : Nat} {x : CV} (hk : xs[k]? = some x) : ∃ ga oa, a = some ⟨ga, oa, none⟩ ∧ w.rangeAt ga (oa + k * 5) (tc5 x) ∧ w.cell? ⟨ga, oa + k * 5 + 2, none⟩ = some (.int .i64 x.t.count) ∧ w.cell? ⟨ga, oa + k * 5 + 3, none⟩ = some x.vb ∧ w.cell? ⟨ga, oa + k * 5 + 4, none⟩ = some (.map (some x.m)) := by
  obtain ⟨ga, oa, rfl, _, hr⟩ := h.row.at_ (i := k) (c := tc5 x) (by rw [List.getElem?_map, hk]; rfl)
  exact ⟨ga, oa, rfl, hr, hr 2 _ rfl, hr 3 _ rfl, hr 4 _ rfl⟩

/-! ### is, Len -/
theorem is_made {w : World} {B : Nat} {b : Bool} (h : w.cell? ⟨B, 0, none⟩ = some (.bool b)) : Calls Try.prog 30 #[.pointer (some ⟨B, 0, none⟩)] w fun e w' => e = .returned (.bool b) ∧ w = w' := by
  go_enter Try.func30, Try.ntmps30
  go_wp2
  go_ret
  exact ⟨rfl, rfl⟩
theorem is_none (w : World) : Calls Try.prog 30 #[.pointer none] w fun e w' => e = .returned (.bool false) ∧ w = w' := by
  go_enter Try.func30, Try.ntmps30
  go_wp2
  go_ret
  exact ⟨rfl, rfl⟩
theorem len_not {w : World} {v : Value} (hI : Calls Try.prog 30 #[v] w fun e w' => e = .returned (.bool false) ∧ w = w') : Calls Try.prog 11 #[v] w fun e w' => e = .returned (.int .i64 0) ∧ w = w' := by
  go_enter Try.func11, Try.ntmps11
  go_wp2_with fail
  refine hI.mono ?_
  rintro e w' ⟨rfl, rfl⟩
  go_wp2_with fail
  go_ret
  exact ⟨rfl, rfl⟩
theorem len_ok {w : World} {B : Nat} {g : G4} {s : CS} {T : List Nat} {va : Value} {xs : List CV} (h : LSt w B g s T va xs) : Calls Try.prog 11 #[.pointer (some ⟨B, 0, none⟩)] w fun e w' => e = .returned (.int .i64 (s.all.length : Int)) ∧ w = w' := by
  obtain ⟨a, cap, rfl⟩ := h.va
  have c0 : w.cell? ⟨B, 0, none⟩ = some (.bool true) := cell_at h.li.obj 0
  have c7 : w.cell? ⟨B, 7, none⟩ = some (.slice a s.all.length cap) := cell_at h.li.obj 7
  generalize s.all.length = n at *
  have HI := Lib.hid (is_made c0)
  clear h
  go_enter Try.func11, Try.ntmps11
  go_wp2_with fail
  refine HI.out.mono ?_
  rintro e w' ⟨rfl, rfl⟩
  go_wp2_with fail
  go_ret
  exact ⟨rfl, rfl⟩
#print axioms len_ok
end Go.Proofs.Ytokehhegomiciaa
