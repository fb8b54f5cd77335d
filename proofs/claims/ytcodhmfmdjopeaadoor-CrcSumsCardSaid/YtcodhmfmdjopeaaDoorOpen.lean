/- What a row's arguments and its listed table give to the walks. -/
import Derived.Test.YtcodhmfmdjopeaaDoorCards
import Derived.Test.YtcodhmfmdjopeaaDoorTie
import Derived.Test.YtcodhmfmdjopeaaDoorW2
import Derived.ProofKit
import Derived.OpenShut
import Derived.ChangeOld
import Derived.Below
import Derived.Deep.DeepHandedRow
import Derived.Lib.LaidTab
namespace Go.Proofs.YtcodhmfmdjopeaaDoor
open Go.ChangeShapes Go.WideShapes Go.ChangeAt Go.RowKit

/-- a slice of bytes that came in -/
def IsBytes (w : World) (a : Option Addr) (len cap : Nat) (bs : List Nat) : Prop := Bytes w a len bs ∧ len ≤ cap ∧ cap ≤ 140737488351232
theorem isBytes_of {H : Type} {enc : TypeId × Value → H} {P : Program} {W : World} {t e : TypeId} (ht : P.underlying t = some (.slice e)) (he : P.underlying e = some (.int .u8)) (hc : P.cellsOf e = 1) (hby : P.bytesOf e = 1)
    {a : Option Addr} {len cap : Nat} {d : DataW H} {p : List MemPlace} (hs : ∀ el sp, d = .slice el sp → (el.length + sp.length) * P.bytesOf e ≤ reachBytes) (h : DataW.Trod enc P W 0 (fun _ => true) true t (.slice a len cap) d p) : ∃ bs, IsBytes W a len cap bs := by
  obtain ⟨fuel, hf⟩ := h
  rcases open_ints ht he hc hf with ⟨hcs, _⟩ | ⟨x, l, c, zs, hcs, _, hl, _, hz, hx, hcell, hwz⟩
  · simp [Value.cells] at hcs
    obtain ⟨rfl, rfl, rfl⟩ := hcs
    exact ⟨[], ⟨rfl, by simp, by omega⟩, Nat.le_refl _, by omega⟩
  · simp [Value.cells] at hcs
    obtain ⟨rfl, rfl, rfl⟩ := hcs
    have hzl : zs.length = cap := by simpa using hz
    have hm : cap ≤ 140737488351232 := by
      have := hs _ _ (congrArg Prod.fst hx)
      simp [lits, hby, reachBytes] at this
      omega
    have hb : ∀ n ∈ zs, 0 ≤ n ∧ n < 256 := fun n hn => by
      have := hwz n hn
      simp [Lit.wf, IntKind.min, IntKind.max, IntKind.signed, IntKind.bits] at this
      omega
    refine ⟨(zs.take len).map Int.toNat, ⟨?_, ?_, ?_⟩, hl, hm⟩
    · simp; omega
    · intro y hy
      obtain ⟨n, hn, rfl⟩ := List.mem_map.1 hy
      have := hb n (List.mem_of_mem_take hn)
      omega
    · intro _
      refine ⟨x, rfl, fun j hj => ?_⟩
      have hjz : j < zs.length := by omega
      rw [hcell j hjz]
      congr 2
      have h1 : zs.getD j 0 = zs[j] := by rw [List.getD_eq_getElem?_getD, List.getElem?_eq_getElem hjz]; rfl
      have h2 : ((zs.take len).map Int.toNat).getD j 0 = (zs[j]).toNat := by
        rw [List.getD_eq_getElem?_getD, List.getElem?_map, List.getElem?_take_of_lt hj, List.getElem?_eq_getElem hjz]; rfl
      rw [h1, h2]
      have := hb _ (List.getElem_mem hjz)
      omega

theorem u8_of {a : Int} (w : (Lit.int .u8 a).wf = true) : ∃ x : Nat, x < 256 ∧ a = (x : Int) := by
  simp [Lit.wf, IntKind.min, IntKind.max, IntKind.signed, IntKind.bits] at w
  exact ⟨a.toNat, by omega, by omega⟩
theorem u32_of {a : Int} (w : (Lit.int .u32 a).wf = true) : ∃ x : BitVec 32, a = (x.toNat : Int) := by
  simp [Lit.wf, IntKind.min, IntKind.max, IntKind.signed, IntKind.bits] at w
  refine ⟨BitVec.ofNat 32 a.toNat, ?_⟩
  rw [BitVec.toNat_ofNat, Nat.mod_eq_of_lt (by omega)]
  omega
theorem i64_of {a : Int} (w : (Lit.int .i64 a).wf = true) : -9223372036854775808 ≤ a ∧ a ≤ 9223372036854775807 := by
  simpa [Lit.wf, IntKind.min, IntKind.max, IntKind.signed, IntKind.bits] using w

theorem gTab : Tryd.prog.globalNamed "quern/crc.steps" = some 0 := by kernel_rfl
theorem gTabType : (Tryd.prog.globals[0]?).map (·.type) = some 38 := by kernel_rfl
theorem cellsTab : Tryd.prog.cellsOf 38 = 16 := by kernel_rfl
theorem cells32 : Tryd.prog.cellsOf 25 = 1 := by kernel_rfl
def stepsI : List Int := [0, 498536548, 997073096, 651767980, 1994146192, 1802195444, 1303535960, 1342533948, 3988292384, 4027552580, 3604390888, 3412177804, 2607071920, 2262029012, 2685067896, 3183342108]
theorem table {W : World} (h : laidMetH Tryd.prog [("quern/crc.steps", Rows.laid_quern_crc_steps)] W) : Tab W := by
  have t : Lib.TabIs Tryd.prog W "quern/crc.steps" .u32 stepsI := Lib.tabIs_of_head (rest := []) gTab gTabType Tryd.underlying38 Tryd.underlying25 cells32 cellsTab h
  intro i hi
  rw [t.cell gTab i hi]
  have : ∀ i, i < 16 → stepsI.getD i 0 = ((CrcPlain.steps.getD i 0 : Nat) : Int) := by decide
  rw [this i hi]
/-- a world in which the table holds what its initialiser lays -/
noncomputable def laidWorld (os : Os) : World :=
  { World.holding Tryd.prog os ⟨#[], #[], []⟩ with heap := (World.holding Tryd.prog os ⟨#[], #[], []⟩).heap.modify 0 fun
      | .cells _ t frozen => .cells #[.int .u32 0, .int .u32 498536548, .int .u32 997073096, .int .u32 651767980, .int .u32 1994146192, .int .u32 1802195444, .int .u32 1303535960, .int .u32 1342533948, .int .u32 3988292384, .int .u32 4027552580, .int .u32 3604390888, .int .u32 3412177804, .int .u32 2607071920, .int .u32 2262029012, .int .u32 2685067896, .int .u32 3183342108] t frozen
      | o => o }
end Go.Proofs.YtcodhmfmdjopeaaDoor
