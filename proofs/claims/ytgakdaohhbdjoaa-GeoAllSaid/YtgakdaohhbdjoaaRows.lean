/-
  No cell of these rows narrows 'for every input' (looked for: loops, veiled, ifaces, maps, wideKeys, modest, calm, conditions, laid).
  DERIVED. THE GIVEN ROWS OF THIS SEAT. 7 by the template 'for every input the law returns true; each argument reads behind the call as it read before'; 0 by the template 'total and deterministic' (their statements: YtgakdaohhbdjoaaTotals.lean).
  GIVEN WITH THE SEED: the statements are not yours to turn. If you find one false, say at which input.
  Laid BY PROGRAM, IN A SANDBOX (cutbox-rows.mjs): the forced cells as the released guide's own fill.sh prints them over the translation 9c78656625aa000c… (all of the seat's roots in one cut). By AI agents, Wed Nov 11 2026. No macro, syntax, notation, axiom, sorry.
-/
import Derived.Test.YtgakdaohhbdjoaaChecked
import GoSem.Claim
import GoSem.ClaimJoined
import GoSem.ClaimMapViews
import Derived.JoinedTies
import Derived.KernelRfl
namespace Go.Proofs.Ytgakdaohhbdjoaa
/- THE CELL 'sum', in the pinned program and in every row, IS THE sha256 OF THE DUMP (.gsa) THAT YtgakdaohhbdjoaaProg.lean LOADS. Nothing in Lean hashes anything: it is a label: what it is worth is what the hold of that sum in a sandbox is worth. -/
noncomputable def Try.pinned : Pinned := { name := "ytgakdaohhbdjoaa", sum := "9c78656625aa000cd9426f57108bd97600ff113195cd4589ed45a5fd4ec8576d", checked := Try.checked }
namespace Rows
def none {H : Type} : Left H := { results := [], args := [] }

/-- 'quernlaw05.GeoInodes': WHATEVER THE INPUT: true; the input reads as it did. -/
def geoInodesSpec : ChangeSpec := { name := "geoInodes", fn := fun _ => fun
  | [d1, d2, d3, d4] => { results := [.lit (.bool true)], args := [d1, d2, d3, d4] }
  | _ => none }
def geoInodesRow : OpenClaim := { program := "ytgakdaohhbdjoaa", sum := "9c78656625aa000cd9426f57108bd97600ff113195cd4589ed45a5fd4ec8576d", func := "quern/quernlaw05.GeoInodes", spec := "geoInodes", apart := false }
def GeoInodesSaid : Prop := geoInodesRow.holds Try.pinned (OpenSpec.ofChange geoInodesSpec)

/-- ITS FALSE NEIGHBOUR: 'it returns false'. Refute it at one input. -/
def geoInodesWrong : ChangeSpec := { name := "geoInodes", fn := fun _ => fun
  | [d1, d2, d3, d4] => { results := [.lit (.bool false)], args := [d1, d2, d3, d4] }
  | _ => none }
def GeoInodesWrongFalsely : Prop := geoInodesRow.holds Try.pinned (OpenSpec.ofChange geoInodesWrong)

/-- 'quernlaw05.GeoTells': WHATEVER THE INPUT: true; the input reads as it did. -/
def geoTellsSpec : ChangeSpec := { name := "geoTells", fn := fun _ => fun
  | [d1, d2, d3] => { results := [.lit (.bool true)], args := [d1, d2, d3] }
  | _ => none }
def geoTellsRow : OpenClaim := { program := "ytgakdaohhbdjoaa", sum := "9c78656625aa000cd9426f57108bd97600ff113195cd4589ed45a5fd4ec8576d", func := "quern/quernlaw05.GeoTells", spec := "geoTells", unfollowed := true, recurses := true, apart := false }
def GeoTellsSaid : Prop := geoTellsRow.holds Try.pinned (OpenSpec.ofChange geoTellsSpec)

/-- ITS FALSE NEIGHBOUR: 'it returns false'. Refute it at one input. -/
def geoTellsWrong : ChangeSpec := { name := "geoTells", fn := fun _ => fun
  | [d1, d2, d3] => { results := [.lit (.bool false)], args := [d1, d2, d3] }
  | _ => none }
def GeoTellsWrongFalsely : Prop := geoTellsRow.holds Try.pinned (OpenSpec.ofChange geoTellsWrong)

/-- 'quernlaw05.GeoAll': WHATEVER THE INPUT: true; the input reads as it did. -/
def geoAllSpec : ChangeSpec := { name := "geoAll", fn := fun _ => fun
  | [d] => { results := [.lit (.bool true)], args := [d] }
  | _ => none }
def geoAllRow : OpenClaim := { program := "ytgakdaohhbdjoaa", sum := "9c78656625aa000cd9426f57108bd97600ff113195cd4589ed45a5fd4ec8576d", func := "quern/quernlaw05.GeoAll", spec := "geoAll", unfollowed := true, recurses := true, apart := false }
def GeoAllSaid : Prop := geoAllRow.holds Try.pinned (OpenSpec.ofChange geoAllSpec)

/-- ITS FALSE NEIGHBOUR: 'it returns false'. Refute it at one input. -/
def geoAllWrong : ChangeSpec := { name := "geoAll", fn := fun _ => fun
  | [d] => { results := [.lit (.bool false)], args := [d] }
  | _ => none }
def GeoAllWrongFalsely : Prop := geoAllRow.holds Try.pinned (OpenSpec.ofChange geoAllWrong)

/-- 'quernlaw05.GeoPlaces': WHATEVER THE INPUT: true; the input reads as it did. -/
def geoPlacesSpec : ChangeSpec := { name := "geoPlaces", fn := fun _ => fun
  | [d] => { results := [.lit (.bool true)], args := [d] }
  | _ => none }
def geoPlacesRow : OpenClaim := { program := "ytgakdaohhbdjoaa", sum := "9c78656625aa000cd9426f57108bd97600ff113195cd4589ed45a5fd4ec8576d", func := "quern/quernlaw05.GeoPlaces", spec := "geoPlaces", unfollowed := true, recurses := true, apart := false }
def GeoPlacesSaid : Prop := geoPlacesRow.holds Try.pinned (OpenSpec.ofChange geoPlacesSpec)

/-- ITS FALSE NEIGHBOUR: 'it returns false'. Refute it at one input. -/
def geoPlacesWrong : ChangeSpec := { name := "geoPlaces", fn := fun _ => fun
  | [d] => { results := [.lit (.bool false)], args := [d] }
  | _ => none }
def GeoPlacesWrongFalsely : Prop := geoPlacesRow.holds Try.pinned (OpenSpec.ofChange geoPlacesWrong)

/-- 'quernlaw05.GeoSizes': WHATEVER THE INPUT: true; the input reads as it did. -/
def geoSizesSpec : ChangeSpec := { name := "geoSizes", fn := fun _ => fun
  | [d] => { results := [.lit (.bool true)], args := [d] }
  | _ => none }
def geoSizesRow : OpenClaim := { program := "ytgakdaohhbdjoaa", sum := "9c78656625aa000cd9426f57108bd97600ff113195cd4589ed45a5fd4ec8576d", func := "quern/quernlaw05.GeoSizes", spec := "geoSizes", unfollowed := true, recurses := true, apart := false }
def GeoSizesSaid : Prop := geoSizesRow.holds Try.pinned (OpenSpec.ofChange geoSizesSpec)

/-- ITS FALSE NEIGHBOUR: 'it returns false'. Refute it at one input. -/
def geoSizesWrong : ChangeSpec := { name := "geoSizes", fn := fun _ => fun
  | [d] => { results := [.lit (.bool false)], args := [d] }
  | _ => none }
def GeoSizesWrongFalsely : Prop := geoSizesRow.holds Try.pinned (OpenSpec.ofChange geoSizesWrong)

/-- 'quernlaw05.GeoNumbers': WHATEVER THE INPUT: true; the input reads as it did. -/
def geoNumbersSpec : ChangeSpec := { name := "geoNumbers", fn := fun _ => fun
  | [d1, d2, d3] => { results := [.lit (.bool true)], args := [d1, d2, d3] }
  | _ => none }
def geoNumbersRow : OpenClaim := { program := "ytgakdaohhbdjoaa", sum := "9c78656625aa000cd9426f57108bd97600ff113195cd4589ed45a5fd4ec8576d", func := "quern/quernlaw05.GeoNumbers", spec := "geoNumbers", unfollowed := true, recurses := true, apart := false }
def GeoNumbersSaid : Prop := geoNumbersRow.holds Try.pinned (OpenSpec.ofChange geoNumbersSpec)

/-- ITS FALSE NEIGHBOUR: 'it returns false'. Refute it at one input. -/
def geoNumbersWrong : ChangeSpec := { name := "geoNumbers", fn := fun _ => fun
  | [d1, d2, d3] => { results := [.lit (.bool false)], args := [d1, d2, d3] }
  | _ => none }
def GeoNumbersWrongFalsely : Prop := geoNumbersRow.holds Try.pinned (OpenSpec.ofChange geoNumbersWrong)

/-- 'quernlaw05.GeoStarts': WHATEVER THE INPUT: true; the input reads as it did. -/
def geoStartsSpec : ChangeSpec := { name := "geoStarts", fn := fun _ => fun
  | [d1, d2] => { results := [.lit (.bool true)], args := [d1, d2] }
  | _ => none }
def geoStartsRow : OpenClaim := { program := "ytgakdaohhbdjoaa", sum := "9c78656625aa000cd9426f57108bd97600ff113195cd4589ed45a5fd4ec8576d", func := "quern/quernlaw05.GeoStarts", spec := "geoStarts", unfollowed := true, recurses := true, apart := false }
def GeoStartsSaid : Prop := geoStartsRow.holds Try.pinned (OpenSpec.ofChange geoStartsSpec)

/-- ITS FALSE NEIGHBOUR: 'it returns false'. Refute it at one input. -/
def geoStartsWrong : ChangeSpec := { name := "geoStarts", fn := fun _ => fun
  | [d1, d2] => { results := [.lit (.bool false)], args := [d1, d2] }
  | _ => none }
def GeoStartsWrongFalsely : Prop := geoStartsRow.holds Try.pinned (OpenSpec.ofChange geoStartsWrong)

/- THE SECOND FORM. 'bulk': how many values and letters a reading holds, each counted each time it is reached (what is shared counts as often as it is met; a slice's spare places count too). A statement '..UptoSaid' is the law's where the arguments, and the package variables that the reading takes, are together of bulk at most 1048576: NARROWER than '..Said'. Prove '..Said' where nothing that the law and all that it calls make is longer than what came in: it says more and counts as full. Else prove '..UptoSaid'. A law counts once. -/
mutual
def uptoBulk {H : Type} : DataW H → Nat
  | .lit (.string bytes) => bytes.length + 1
  | .lit _ => 1
  | .nil => 1
  | .ptr d => uptoBulk d + 1
  | .slice elems spare => uptoBulkAll elems + uptoBulkAll spare + 1
  | .agg parts => uptoBulkAll parts + 1
  | .iface _ d => uptoBulk d + 1
  | .map entries => uptoBulkEntries entries + 1
  | .held _ => 1
def uptoBulkAll {H : Type} : List (DataW H) → Nat
  | [] => 0
  | d :: r => uptoBulk d + uptoBulkAll r
def uptoBulkEntries {H : Type} : List (Lit × DataW H) → Nat
  | [] => 0
  | x :: r => uptoBulkEntry x + uptoBulkEntries r
def uptoBulkEntry {H : Type} : Lit × DataW H → Nat
  | (.string bytes, d) => bytes.length + uptoBulk d + 1
  | (_, d) => uptoBulk d + 1
 end
def uptoSmall : (H : Type) → List (DataW H) → Bool := fun _ ds => decide (uptoBulkAll ds ≤ 1048576)
def OpenSpec.upto (s : _root_.Go.ChangeSpec) : _root_.Go.OpenSpec := { _root_.Go.OpenSpec.ofChange s with cond := some uptoSmall }

/-- 'quernlaw05.GeoInodes', WHERE WHAT IT READS IS OF BULK AT MOST 1048576: true; the input reads as it did. -/
def geoInodesUptoRow : OpenClaim := { program := "ytgakdaohhbdjoaa", sum := "9c78656625aa000cd9426f57108bd97600ff113195cd4589ed45a5fd4ec8576d", func := "quern/quernlaw05.GeoInodes", spec := "geoInodes", apart := false, narrowed := true }
def GeoInodesUptoSaid : Prop := geoInodesUptoRow.holds Try.pinned (OpenSpec.upto geoInodesSpec)

/-- 'quernlaw05.GeoTells', WHERE WHAT IT READS IS OF BULK AT MOST 1048576: true; the input reads as it did. -/
def geoTellsUptoRow : OpenClaim := { program := "ytgakdaohhbdjoaa", sum := "9c78656625aa000cd9426f57108bd97600ff113195cd4589ed45a5fd4ec8576d", func := "quern/quernlaw05.GeoTells", spec := "geoTells", unfollowed := true, recurses := true, apart := false, narrowed := true }
def GeoTellsUptoSaid : Prop := geoTellsUptoRow.holds Try.pinned (OpenSpec.upto geoTellsSpec)

/-- 'quernlaw05.GeoAll', WHERE WHAT IT READS IS OF BULK AT MOST 1048576: true; the input reads as it did. -/
def geoAllUptoRow : OpenClaim := { program := "ytgakdaohhbdjoaa", sum := "9c78656625aa000cd9426f57108bd97600ff113195cd4589ed45a5fd4ec8576d", func := "quern/quernlaw05.GeoAll", spec := "geoAll", unfollowed := true, recurses := true, apart := false, narrowed := true }
def GeoAllUptoSaid : Prop := geoAllUptoRow.holds Try.pinned (OpenSpec.upto geoAllSpec)

/-- 'quernlaw05.GeoPlaces', WHERE WHAT IT READS IS OF BULK AT MOST 1048576: true; the input reads as it did. -/
def geoPlacesUptoRow : OpenClaim := { program := "ytgakdaohhbdjoaa", sum := "9c78656625aa000cd9426f57108bd97600ff113195cd4589ed45a5fd4ec8576d", func := "quern/quernlaw05.GeoPlaces", spec := "geoPlaces", unfollowed := true, recurses := true, apart := false, narrowed := true }
def GeoPlacesUptoSaid : Prop := geoPlacesUptoRow.holds Try.pinned (OpenSpec.upto geoPlacesSpec)

/-- 'quernlaw05.GeoSizes', WHERE WHAT IT READS IS OF BULK AT MOST 1048576: true; the input reads as it did. -/
def geoSizesUptoRow : OpenClaim := { program := "ytgakdaohhbdjoaa", sum := "9c78656625aa000cd9426f57108bd97600ff113195cd4589ed45a5fd4ec8576d", func := "quern/quernlaw05.GeoSizes", spec := "geoSizes", unfollowed := true, recurses := true, apart := false, narrowed := true }
def GeoSizesUptoSaid : Prop := geoSizesUptoRow.holds Try.pinned (OpenSpec.upto geoSizesSpec)

/-- 'quernlaw05.GeoNumbers', WHERE WHAT IT READS IS OF BULK AT MOST 1048576: true; the input reads as it did. -/
def geoNumbersUptoRow : OpenClaim := { program := "ytgakdaohhbdjoaa", sum := "9c78656625aa000cd9426f57108bd97600ff113195cd4589ed45a5fd4ec8576d", func := "quern/quernlaw05.GeoNumbers", spec := "geoNumbers", unfollowed := true, recurses := true, apart := false, narrowed := true }
def GeoNumbersUptoSaid : Prop := geoNumbersUptoRow.holds Try.pinned (OpenSpec.upto geoNumbersSpec)

/-- 'quernlaw05.GeoStarts', WHERE WHAT IT READS IS OF BULK AT MOST 1048576: true; the input reads as it did. -/
def geoStartsUptoRow : OpenClaim := { program := "ytgakdaohhbdjoaa", sum := "9c78656625aa000cd9426f57108bd97600ff113195cd4589ed45a5fd4ec8576d", func := "quern/quernlaw05.GeoStarts", spec := "geoStarts", unfollowed := true, recurses := true, apart := false, narrowed := true }
def GeoStartsUptoSaid : Prop := geoStartsUptoRow.holds Try.pinned (OpenSpec.upto geoStartsSpec)

end Rows
end Go.Proofs.Ytgakdaohhbdjoaa
