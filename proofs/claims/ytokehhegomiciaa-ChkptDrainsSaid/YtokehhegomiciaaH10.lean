/- A list of committed transactions: Add, up to the row of the new transaction. -/
import Derived.Test.YtokehhegomiciaaH9
set_option linter.unusedVariables false
set_option linter.unusedSimpArgs false
namespace Go.Proofs.Ytokehhegomiciaa
open Go.RowKit Go.Maps

/-- the new transaction, so far -/
structure AInv (w : World) (seq : Nat) (start count : Int) (cs : List Cp) (X m k : Nat) (wr : World) : Prop where
  ex : ∃ vb, wr.heap[X]? = some (.cells #[.int .u32 (seq : Int), .int .i64 start, .int .i64 count, vb, .map (some m)] 82) ∧ IRow wr vb ((cs.take k).map (·.1)) ∧ ∀ q, vb.ownBlock = some q → w.heap.size ≤ q
  map : MapIs wr copyK m k (pr (cs.take k))
  grow : Grow w wr
  x : w.heap.size ≤ X
  m : w.heap.size ≤ m
theorem take_keys {cs : List Cp} (hl : (cs.map (·.1)).Pairwise (· < ·)) {k : Nat} {c : Cp} (h : cs[k]? = some c) : insA (pr (cs.take k)) c.1 c = pr (cs.take (k + 1)) := by
  unfold insA
  rw [pr_del]
  have : forgetL c.1 (cs.take k) = cs.take k := by
    unfold forgetL
    rw [List.filter_eq_self]
    intro d hd
    obtain ⟨j, hj⟩ := List.mem_iff_getElem?.1 hd
    rw [List.getElem?_take] at hj
    split at hj
    · have := rise_at hl hj h (by assumption)
      simp; omega
    · cases hj
  rw [this, List.take_add_one, h]
  unfold pr
  simp
theorem AInv.keepX {w wr : World} {seq : Nat} {start count : Int} {cs : List Cp} {X m k : Nat} (h : AInv w seq start count cs X m k wr) {w2 : World} (hg : Grow wr w2) : AInv w seq start count cs X m k w2 := by
  obtain ⟨vb, h1, h2, h3⟩ := h.ex
  exact ⟨⟨vb, (hg.block X (Array.getElem?_eq_some_iff.1 h1).1).trans h1, IRow.grow h2 hg, h3⟩, h.map.kept (Touch.of_below (S := []) hg) (by simp), h.grow.trans hg, h.x, h.m⟩
theorem makeZ (w : World) : (Try.prog.info? 3).map (fun i => (i.zero, i.size, i.bytes)) = some (some (.int .i64 0), 1, 8) := info3
/-- the two forms of a row's own block under an append -/
theorem app_lo {w w0 : World} {v vb : Value} {l : List (List Value)} (h : AppAtE 3 1 w0 vb l v w) {L : Nat} (hb : ∀ q, vb.ownBlock = some q → L ≤ q) (hL : L ≤ w0.heap.size) : ∀ q, v.ownBlock = some q → L ≤ q := by
  intro q hq
  rcases h.2 with h2 | ⟨g, h2, h3⟩
  · exact hb q (h2 ▸ hq)
  · rw [hq] at h2; cases h2; omega
/-! ### plainly -/
theorem rise_of {g : G4} {cs : List Cp} (h : ∀ i, cOk g cs i) : (cs.map (·.1)).Pairwise (· < ·) ∧ ∀ c ∈ cs, inG g c.1 := by
  constructor
  · rw [List.pairwise_iff_getElem]
    intro i j hi hj hij
    rw [List.length_map] at hi hj
    rw [List.getElem_map, List.getElem_map]
    induction j with
    | zero => omega
    | succ j ih =>
      have h1 := (h (j + 1) cs[j + 1] (List.getElem?_eq_getElem hj)).1 cs[j] (by omega) (by rw [show j + 1 - 1 = j from rfl]; exact List.getElem?_eq_getElem (by omega))
      rcases Nat.lt_or_ge i j with h2 | h2
      · have := ih (by omega) (by omega) h2; omega
      · obtain rfl : i = j := by omega
        exact h1
  · intro c hc
    obtain ⟨i, hi⟩ := List.mem_iff_getElem?.1 hc
    exact (h i c hi).2
def addC (s : CS) (seq : Nat) (cs : List Cp) (rs : List Int) (start count : Int) : CS :=
  { added := true, last := seq, all := (rs.foldl (fun (s : CS) b => s.forget b) { s with all := s.all ++ [⟨seq, start, count, cs, cs⟩] }).all }
theorem forget_added (s : CS) : ∀ rs : List Int, (rs.foldl (fun (s : CS) b => s.forget b) s).added = s.added ∧ (rs.foldl (fun (s : CS) b => s.forget b) s).last = s.last := by
  intro rs
  induction rs generalizing s with
  | nil => exact ⟨rfl, rfl⟩
  | cons b rs ih => exact ih (s.forget b)
theorem ISee.touch {w w' : World} {v : Value} {zs : List Int} (h : ISee w v zs) {S : List Nat} (ht : Touch S w w') (hn : ∀ k, v.ownBlock = some k → zs ≠ [] → k ∉ S) : ISee w' v zs := by
  obtain ⟨⟨a, cap, hv, hi⟩, ho⟩ := h
  refine ⟨⟨a, cap, hv, fun k c hk => ?_⟩, ho⟩
  obtain ⟨g, o, ha, hl, hr⟩ := hi k c hk
  exact ⟨g, o, ha, Nat.lt_of_lt_of_le hl ht.size, range_touch hr ht hl (hn g (by rw [hv, ha]; rfl) (by rintro rfl; simp at hk))⟩
theorem ISee.lt {w : World} {v : Value} {zs : List Int} (h : ISee w v zs) (hz : zs ≠ []) {k : Nat} (hk : v.ownBlock = some k) : k < w.heap.size := by
  obtain ⟨⟨a, cap, hv, hi⟩, _⟩ := h
  obtain ⟨z, zs', rfl⟩ := List.exists_cons_of_ne_nil hz
  obtain ⟨g, o, ha, hl, _⟩ := hi 0 (icell z) rfl
  rw [hv, ha] at hk
  cases hk
  exact hl
/-- the list with the new transaction -/
theorem LSt.push {w0 w w' : World} {B : Nat} {g : G4} {s : CS} {T : List Nat} {va v : Value} {xs : List CV} {x : CV} (h0 : LSt w0 B g s T va xs) (h : LSt w B g s T va xs) (hlen : s.all.length + 1 ≤ 1000) (ht : Touch (B :: ownL va) w w') (hob : w'.heap[B]? = some (.cells (lcells g s.added s.last v).toArray 71)) (hrow : GRow w' 82 5 v (xs.map tc5 ++ [tc5 x])) (hx : CVIs w x) (hm : w0.heap.size ≤ x.m) :
    LSt w' B g { s with all := s.all ++ [x.t] } (T ++ ownL v ++ [x.m] ++ ownL x.vb) v (xs ++ [x]) := by
  have hkA : ∀ k, va.ownBlock = some k → KindAt w k 82 := fun k hk => h.li.row.lt hk
  have hkB := h.li.kindB
  have hmS : ∀ y : CV, CVIs w y → y.m ∉ B :: ownL va := fun y hy hmem => by
    rcases List.mem_cons.1 hmem with e | e
    · exact map_ne_cells hy.map hkB e.symm
    · exact map_ne_cells hy.map (hkA _ (ownL_mem.1 e)) rfl
  have hvS : ∀ y : CV, CVIs w y → ∀ k, y.vb.ownBlock = some k → k ∉ B :: ownL va := fun y hy k hk hmem => by
    obtain ⟨C, h1⟩ := IRow.kind hy.bl hk
    rcases List.mem_cons.1 hmem with e | e
    · obtain ⟨D, h2⟩ := hkB
      rw [e] at h1
      rw [h1] at h2
      simp at h2
    · obtain ⟨D, h2⟩ := hkA _ (ownL_mem.1 e)
      rw [h1] at h2
      simp at h2
  refine ⟨⟨hob, by rw [List.map_append]; exact hrow, ?_, ?_, ?_⟩, ?_, ?_, ?_, ?_, ?_⟩
  · intro y hy
    rcases List.mem_append.1 hy with hy | hy
    · have := h.li.is y hy; exact this.kept ht (hmS y this) (hvS y this)
    · rw [List.mem_singleton.1 hy]; exact hx.kept ht (hmS x hx) (hvS x hx)
  · rw [List.map_append, List.nodup_append]
    refine ⟨h.li.nd, by simp, fun a ha b hb => ?_⟩
    simp only [List.map_cons, List.map_nil, List.mem_singleton] at hb
    obtain ⟨y, hy, rfl⟩ := List.mem_map.1 ha
    have := (h0.li.is y hy).map.lt
    omega
  · rw [List.length_append, h.rowlen]; exact hlen
  · rw [List.map_append, h.all]; rfl
  · simp [h.b]
  · intro k hk; simp [ownL_mem, hk]
  · intro y hy
    rcases List.mem_append.1 hy with hy | hy
    · simp [h.m y hy]
    · rw [List.mem_singleton.1 hy]; simp
  · intro y hy k hk
    rcases List.mem_append.1 hy with hy | hy
    · simp [h.v y hy k hk]
    · rw [List.mem_singleton.1 hy] at hk; simp [ownL_mem, hk]
/-- 'added' and the last number turn -/
theorem LSt.flag {w w' : World} {B : Nat} {g : G4} {s : CS} {T : List Nat} {va : Value} {xs : List CV} {ad : Bool} {la : Nat} (h : LSt w B g s T va xs) (ht : Touch [B] w w') (hob : w'.heap[B]? = some (.cells (lcells g ad la va).toArray 71)) : LSt w' B g { added := ad, last := la, all := s.all } T va xs := by
  have hkB := h.li.kindB
  refine { h with li := ⟨hob, h.li.row.kept ht (fun k hk hm => ?_), fun x hx => (h.li.is x hx).kept ht (fun hm => map_ne_cells (h.li.is x hx).map hkB (List.mem_singleton.1 hm).symm) (fun k hk hm => ?_), h.li.nd, h.li.len⟩ }
  · obtain ⟨C, h1⟩ := h.li.row.lt hk
    obtain ⟨D, h2⟩ := hkB
    rw [List.mem_singleton.1 hm, h2] at h1
    simp at h1
  · obtain ⟨C, h1⟩ := IRow.kind (h.li.is x hx).bl hk
    obtain ⟨D, h2⟩ := hkB
    rw [List.mem_singleton.1 hm, h2] at h1
    simp at h1
#print axioms LSt.push
end Go.Proofs.Ytokehhegomiciaa
