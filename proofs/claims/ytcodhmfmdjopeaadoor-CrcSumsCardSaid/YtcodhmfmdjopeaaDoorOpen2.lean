/- A slice of slices of bytes that came in: what the walks are told of it. -/
import Derived.Test.YtcodhmfmdjopeaaDoorOpen
import Derived.Deep.Matrix
set_option linter.unusedVariables false
namespace Go.Proofs.YtcodhmfmdjopeaaDoor
open Go.ChangeShapes Go.WideShapes Go.ChangeAt Go.RowKit Go.Deep

theorem isPieces_of {H : Type} {enc : TypeId × Value → H} {P : Program} {W : World} {t e q : TypeId} (ht : P.underlying t = some (.slice e)) (he : P.underlying e = some (.slice q)) (hq : P.underlying q = some (.int .u8)) (ce : P.cellsOf e = 1) (cq : P.cellsOf q = 1)
    {a : Option Addr} {len cap : Nat} {d : DataW H} {p : List MemPlace} (h : DataW.Trod enc P W 0 (fun _ => true) true t (.slice a len cap) d p) :
    ∃ ps : List Piece, Pieces W a len ps ∧ len ≤ 9223372036854775807 ∧ (∀ p ∈ ps, p.n ≤ 9223372036854775807) ∧ (∀ p ∈ ps, p.A = none → p.c = 0) := by
  obtain ⟨fuel, hf⟩ := h
  rcases open_int_rows ht he hq ce cq hf with ⟨hcs, _⟩ | ⟨x, l, c, A, L, C, Z, hcs, _, hl, hm, _, hall⟩
  · simp [Value.cells] at hcs
    obtain ⟨rfl, rfl, rfl⟩ := hcs
    exact ⟨[], ⟨rfl, by simp, by omega⟩, by omega, by simp, by simp⟩
  · simp [Value.cells] at hcs
    obtain ⟨rfl, rfl, rfl⟩ := hcs
    unfold maxLen at hm
    refine ⟨(List.range len).map fun r => ⟨A r, L r, C r, ((Z r).take (L r)).map Int.toNat⟩, ⟨by simp, ?_, ?_⟩, by omega, ?_, ?_⟩
    · intro p hp
      obtain ⟨r, hr, rfl⟩ := List.mem_map.1 hp
      have hrl := List.mem_range.1 hr
      obtain ⟨_, h1, h2, h3, h4, h5, h6⟩ := hall r (by omega)
      have hb : ∀ n ∈ Z r, 0 ≤ n ∧ n < 256 := fun n hn => by
        have := h4 n hn
        simp [Lit.wf, IntKind.min, IntKind.max, IntKind.signed, IntKind.bits] at this
        omega
      refine ⟨by simp; omega, ?_, ?_⟩
      · intro y hy
        obtain ⟨n, hn, rfl⟩ := List.mem_map.1 hy
        have := hb n (List.mem_of_mem_take hn)
        omega
      · intro hpos
        dsimp only at hpos
        cases hA : A r with
        | none => have := h5 hA; omega
        | some a' =>
          refine ⟨a', rfl, fun j hj => ?_⟩
          dsimp only at hj
          have hjz : j < (Z r).length := by omega
          rw [(h6 a' hA).2 j (by omega)]
          congr 2
          have e1 : (Z r).getD j 0 = (Z r)[j] := by rw [List.getD_eq_getElem?_getD, List.getElem?_eq_getElem hjz]; rfl
          have e2 : (((Z r).take (L r)).map Int.toNat).getD j 0 = ((Z r)[j]).toNat := by
            rw [List.getD_eq_getElem?_getD, List.getElem?_map, List.getElem?_take_of_lt hj, List.getElem?_eq_getElem hjz]; rfl
          dsimp only
          rw [e1, e2]
          have := hb _ (List.getElem_mem hjz)
          omega
    · intro hpos
      refine ⟨x, rfl, fun j hj => ?_⟩
      rw [(hall j (by omega)).1, List.getD_eq_getElem?_getD]
      simp [hj, Piece.val]
    · intro p hp
      obtain ⟨r, hr, rfl⟩ := List.mem_map.1 hp
      have hrl := List.mem_range.1 hr
      obtain ⟨_, h1, h2, _⟩ := hall r (by omega)
      unfold maxLen at h2
      dsimp only
      omega
    · intro p hp
      obtain ⟨r, hr, rfl⟩ := List.mem_map.1 hp
      have hrl := List.mem_range.1 hr
      exact (hall r (by omega)).2.2.2.2.2.1
end Go.Proofs.YtcodhmfmdjopeaaDoor
