/-
  No cell of these rows narrows 'for every input' (looked for: loops, veiled, ifaces, maps, wideKeys, modest, calm, conditions, laid).
  DERIVED. THE GIVEN ROWS OF THIS SEAT. 6 by the template 'for every input the law returns true; each argument reads behind the call as it read before'; 0 by the template 'total and deterministic' (their statements: YtmfofobmceflmaaTotals.lean).
  GIVEN WITH THE SEED: the statements are not yours to turn. If you find one false, say at which input.
  Laid BY PROGRAM, IN A SANDBOX (cutbox-rows.mjs): the forced cells as the released guide's own fill.sh prints them over the translation cb5dd8ad4a98c7d1… (all of the seat's roots in one cut). By AI agents, Wed Nov 11 2026. No macro, syntax, notation, axiom, sorry.
-/
import Derived.Test.YtmfofobmceflmaaChecked
import GoSem.Claim
import GoSem.ClaimJoined
import GoSem.ClaimMapViews
import Derived.JoinedTies
import Derived.KernelRfl
namespace Go.Proofs.Ytmfofobmceflmaa
/- THE CELL 'sum', in the pinned program and in every row, IS THE sha256 OF THE DUMP (.gsa) THAT YtmfofobmceflmaaProg.lean LOADS. Nothing in Lean hashes anything: it is a label: what it is worth is what the hold of that sum in a sandbox is worth. -/
noncomputable def Try.pinned : Pinned := { name := "ytmfofobmceflmaa", sum := "cb5dd8ad4a98c7d1774130da2d906bc909ae52af88ae0941bdca80c3fd56dcc6", checked := Try.checked }
namespace Rows
def none {H : Type} : Left H := { results := [], args := [] }

/-- 'quernlaw11.CacheLists': WHATEVER THE INPUT: true; the input reads as it did. -/
def cacheListsSpec : ChangeSpec := { name := "cacheLists", fn := fun _ => fun
  | [d1, d2] => { results := [.lit (.bool true)], args := [d1, d2] }
  | _ => none }
def cacheListsRow : OpenClaim := { program := "ytmfofobmceflmaa", sum := "cb5dd8ad4a98c7d1774130da2d906bc909ae52af88ae0941bdca80c3fd56dcc6", func := "quern/quernlaw11.CacheLists", spec := "cacheLists", recurses := true, apart := false }
def CacheListsSaid : Prop := cacheListsRow.holds Try.pinned (OpenSpec.ofChange cacheListsSpec)

/-- ITS FALSE NEIGHBOUR: 'it returns false'. Refute it at one input. -/
def cacheListsWrong : ChangeSpec := { name := "cacheLists", fn := fun _ => fun
  | [d1, d2] => { results := [.lit (.bool false)], args := [d1, d2] }
  | _ => none }
def CacheListsWrongFalsely : Prop := cacheListsRow.holds Try.pinned (OpenSpec.ofChange cacheListsWrong)

/-- 'quernlaw11.CachePicks': WHATEVER THE INPUT: true; the input reads as it did. -/
def cachePicksSpec : ChangeSpec := { name := "cachePicks", fn := fun _ => fun
  | [d1, d2, d3] => { results := [.lit (.bool true)], args := [d1, d2, d3] }
  | _ => none }
def cachePicksRow : OpenClaim := { program := "ytmfofobmceflmaa", sum := "cb5dd8ad4a98c7d1774130da2d906bc909ae52af88ae0941bdca80c3fd56dcc6", func := "quern/quernlaw11.CachePicks", spec := "cachePicks", recurses := true, apart := false }
def CachePicksSaid : Prop := cachePicksRow.holds Try.pinned (OpenSpec.ofChange cachePicksSpec)

/-- ITS FALSE NEIGHBOUR: 'it returns false'. Refute it at one input. -/
def cachePicksWrong : ChangeSpec := { name := "cachePicks", fn := fun _ => fun
  | [d1, d2, d3] => { results := [.lit (.bool false)], args := [d1, d2, d3] }
  | _ => none }
def CachePicksWrongFalsely : Prop := cachePicksRow.holds Try.pinned (OpenSpec.ofChange cachePicksWrong)

/-- 'quernlaw11.CacheEvicts': WHATEVER THE INPUT: true; the input reads as it did. -/
def cacheEvictsSpec : ChangeSpec := { name := "cacheEvicts", fn := fun _ => fun
  | [d1, d2] => { results := [.lit (.bool true)], args := [d1, d2] }
  | _ => none }
def cacheEvictsRow : OpenClaim := { program := "ytmfofobmceflmaa", sum := "cb5dd8ad4a98c7d1774130da2d906bc909ae52af88ae0941bdca80c3fd56dcc6", func := "quern/quernlaw11.CacheEvicts", spec := "cacheEvicts", recurses := true, apart := false }
def CacheEvictsSaid : Prop := cacheEvictsRow.holds Try.pinned (OpenSpec.ofChange cacheEvictsSpec)

/-- ITS FALSE NEIGHBOUR: 'it returns false'. Refute it at one input. -/
def cacheEvictsWrong : ChangeSpec := { name := "cacheEvicts", fn := fun _ => fun
  | [d1, d2] => { results := [.lit (.bool false)], args := [d1, d2] }
  | _ => none }
def CacheEvictsWrongFalsely : Prop := cacheEvictsRow.holds Try.pinned (OpenSpec.ofChange cacheEvictsWrong)

/-- 'quernlaw11.CacheDrops': WHATEVER THE INPUT: true; the input reads as it did. -/
def cacheDropsSpec : ChangeSpec := { name := "cacheDrops", fn := fun _ => fun
  | [d1, d2, d3, d4] => { results := [.lit (.bool true)], args := [d1, d2, d3, d4] }
  | _ => none }
def cacheDropsRow : OpenClaim := { program := "ytmfofobmceflmaa", sum := "cb5dd8ad4a98c7d1774130da2d906bc909ae52af88ae0941bdca80c3fd56dcc6", func := "quern/quernlaw11.CacheDrops", spec := "cacheDrops", recurses := true, apart := false }
def CacheDropsSaid : Prop := cacheDropsRow.holds Try.pinned (OpenSpec.ofChange cacheDropsSpec)

/-- ITS FALSE NEIGHBOUR: 'it returns false'. Refute it at one input. -/
def cacheDropsWrong : ChangeSpec := { name := "cacheDrops", fn := fun _ => fun
  | [d1, d2, d3, d4] => { results := [.lit (.bool false)], args := [d1, d2, d3, d4] }
  | _ => none }
def CacheDropsWrongFalsely : Prop := cacheDropsRow.holds Try.pinned (OpenSpec.ofChange cacheDropsWrong)

/-- 'quernlaw11.CacheNil': WHATEVER THE INPUT: true; the input reads as it did. -/
def cacheNilSpec : ChangeSpec := { name := "cacheNil", fn := fun _ => fun
  | [d] => { results := [.lit (.bool true)], args := [d] }
  | _ => none }
def cacheNilRow : OpenClaim := { program := "ytmfofobmceflmaa", sum := "cb5dd8ad4a98c7d1774130da2d906bc909ae52af88ae0941bdca80c3fd56dcc6", func := "quern/quernlaw11.CacheNil", spec := "cacheNil", recurses := true, apart := false }
def CacheNilSaid : Prop := cacheNilRow.holds Try.pinned (OpenSpec.ofChange cacheNilSpec)

/-- ITS FALSE NEIGHBOUR: 'it returns false'. Refute it at one input. -/
def cacheNilWrong : ChangeSpec := { name := "cacheNil", fn := fun _ => fun
  | [d] => { results := [.lit (.bool false)], args := [d] }
  | _ => none }
def CacheNilWrongFalsely : Prop := cacheNilRow.holds Try.pinned (OpenSpec.ofChange cacheNilWrong)

/-- 'quernlaw11.CacheUnseen': WHATEVER THE INPUT: true; the input reads as it did. -/
def cacheUnseenSpec : ChangeSpec := { name := "cacheUnseen", fn := fun _ => fun
  | [d1, d2] => { results := [.lit (.bool true)], args := [d1, d2] }
  | _ => none }
def cacheUnseenRow : OpenClaim := { program := "ytmfofobmceflmaa", sum := "cb5dd8ad4a98c7d1774130da2d906bc909ae52af88ae0941bdca80c3fd56dcc6", func := "quern/quernlaw11.CacheUnseen", spec := "cacheUnseen", recurses := true, apart := false }
def CacheUnseenSaid : Prop := cacheUnseenRow.holds Try.pinned (OpenSpec.ofChange cacheUnseenSpec)

/-- ITS FALSE NEIGHBOUR: 'it returns false'. Refute it at one input. -/
def cacheUnseenWrong : ChangeSpec := { name := "cacheUnseen", fn := fun _ => fun
  | [d1, d2] => { results := [.lit (.bool false)], args := [d1, d2] }
  | _ => none }
def CacheUnseenWrongFalsely : Prop := cacheUnseenRow.holds Try.pinned (OpenSpec.ofChange cacheUnseenWrong)

/- THE SECOND FORM. 'bulk': how many values and letters a reading holds, each counted each time it is reached (what is shared counts as often as it is met; a slice's spare places count too). A statement '..UptoSaid' is the law's where the arguments, and the package variables that the reading takes, are together of bulk at most 1048576: NARROWER than '..Said'. Prove '..Said' where nothing that the law and all that it calls make is longer than what came in: it says more and counts as full. Else prove '..UptoSaid'. A law counts once. -/
mutual
def uptoBulk {H : Type} : DataW H → Nat
  | .lit (.string bytes) => bytes.length + 1
  | .lit _ => 1
  | .nil => 1
  | .ptr d => uptoBulk d + 1
  | .slice elems spare => uptoBulkAll elems + uptoBulkAll spare + 1
  | .agg parts => uptoBulkAll parts + 1
  | .iface _ d => uptoBulk d + 1
  | .map entries => uptoBulkEntries entries + 1
  | .held _ => 1
def uptoBulkAll {H : Type} : List (DataW H) → Nat
  | [] => 0
  | d :: r => uptoBulk d + uptoBulkAll r
def uptoBulkEntries {H : Type} : List (Lit × DataW H) → Nat
  | [] => 0
  | x :: r => uptoBulkEntry x + uptoBulkEntries r
def uptoBulkEntry {H : Type} : Lit × DataW H → Nat
  | (.string bytes, d) => bytes.length + uptoBulk d + 1
  | (_, d) => uptoBulk d + 1
 end
def uptoSmall : (H : Type) → List (DataW H) → Bool := fun _ ds => decide (uptoBulkAll ds ≤ 1048576)
def OpenSpec.upto (s : _root_.Go.ChangeSpec) : _root_.Go.OpenSpec := { _root_.Go.OpenSpec.ofChange s with cond := some uptoSmall }

/-- 'quernlaw11.CacheLists', WHERE WHAT IT READS IS OF BULK AT MOST 1048576: true; the input reads as it did. -/
def cacheListsUptoRow : OpenClaim := { program := "ytmfofobmceflmaa", sum := "cb5dd8ad4a98c7d1774130da2d906bc909ae52af88ae0941bdca80c3fd56dcc6", func := "quern/quernlaw11.CacheLists", spec := "cacheLists", recurses := true, apart := false, narrowed := true }
def CacheListsUptoSaid : Prop := cacheListsUptoRow.holds Try.pinned (OpenSpec.upto cacheListsSpec)

/-- 'quernlaw11.CachePicks', WHERE WHAT IT READS IS OF BULK AT MOST 1048576: true; the input reads as it did. -/
def cachePicksUptoRow : OpenClaim := { program := "ytmfofobmceflmaa", sum := "cb5dd8ad4a98c7d1774130da2d906bc909ae52af88ae0941bdca80c3fd56dcc6", func := "quern/quernlaw11.CachePicks", spec := "cachePicks", recurses := true, apart := false, narrowed := true }
def CachePicksUptoSaid : Prop := cachePicksUptoRow.holds Try.pinned (OpenSpec.upto cachePicksSpec)

/-- 'quernlaw11.CacheEvicts', WHERE WHAT IT READS IS OF BULK AT MOST 1048576: true; the input reads as it did. -/
def cacheEvictsUptoRow : OpenClaim := { program := "ytmfofobmceflmaa", sum := "cb5dd8ad4a98c7d1774130da2d906bc909ae52af88ae0941bdca80c3fd56dcc6", func := "quern/quernlaw11.CacheEvicts", spec := "cacheEvicts", recurses := true, apart := false, narrowed := true }
def CacheEvictsUptoSaid : Prop := cacheEvictsUptoRow.holds Try.pinned (OpenSpec.upto cacheEvictsSpec)

/-- 'quernlaw11.CacheDrops', WHERE WHAT IT READS IS OF BULK AT MOST 1048576: true; the input reads as it did. -/
def cacheDropsUptoRow : OpenClaim := { program := "ytmfofobmceflmaa", sum := "cb5dd8ad4a98c7d1774130da2d906bc909ae52af88ae0941bdca80c3fd56dcc6", func := "quern/quernlaw11.CacheDrops", spec := "cacheDrops", recurses := true, apart := false, narrowed := true }
def CacheDropsUptoSaid : Prop := cacheDropsUptoRow.holds Try.pinned (OpenSpec.upto cacheDropsSpec)

/-- 'quernlaw11.CacheNil', WHERE WHAT IT READS IS OF BULK AT MOST 1048576: true; the input reads as it did. -/
def cacheNilUptoRow : OpenClaim := { program := "ytmfofobmceflmaa", sum := "cb5dd8ad4a98c7d1774130da2d906bc909ae52af88ae0941bdca80c3fd56dcc6", func := "quern/quernlaw11.CacheNil", spec := "cacheNil", recurses := true, apart := false, narrowed := true }
def CacheNilUptoSaid : Prop := cacheNilUptoRow.holds Try.pinned (OpenSpec.upto cacheNilSpec)

/-- 'quernlaw11.CacheUnseen', WHERE WHAT IT READS IS OF BULK AT MOST 1048576: true; the input reads as it did. -/
def cacheUnseenUptoRow : OpenClaim := { program := "ytmfofobmceflmaa", sum := "cb5dd8ad4a98c7d1774130da2d906bc909ae52af88ae0941bdca80c3fd56dcc6", func := "quern/quernlaw11.CacheUnseen", spec := "cacheUnseen", recurses := true, apart := false, narrowed := true }
def CacheUnseenUptoSaid : Prop := cacheUnseenUptoRow.holds Try.pinned (OpenSpec.upto cacheUnseenSpec)

end Rows
end Go.Proofs.Ytmfofobmceflmaa
