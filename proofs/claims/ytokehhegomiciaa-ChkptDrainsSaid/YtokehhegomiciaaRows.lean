/-
  No cell of these rows narrows 'for every input' (looked for: loops, veiled, ifaces, maps, wideKeys, modest, calm, conditions, laid).
  DERIVED. THE GIVEN ROWS OF THIS SEAT. 5 by the template 'for every input the law returns true; each argument reads behind the call as it read before'; 0 by the template 'total and deterministic' (their statements: YtokehhegomiciaaTotals.lean).
  GIVEN WITH THE SEED: the statements are not yours to turn. If you find one false, say at which input.
  Laid BY PROGRAM, IN A SANDBOX (cutbox-rows.mjs): the forced cells as the released guide's own fill.sh prints them over the translation 2c635290cbb4946e… (all of the seat's roots in one cut). By AI agents, Wed Nov 11 2026. No macro, syntax, notation, axiom, sorry.
-/
import Derived.Test.YtokehhegomiciaaChecked
import GoSem.Claim
import GoSem.ClaimJoined
import GoSem.ClaimMapViews
import Derived.JoinedTies
import Derived.KernelRfl
namespace Go.Proofs.Ytokehhegomiciaa
/- THE CELL 'sum', in the pinned program and in every row, IS THE sha256 OF THE DUMP (.gsa) THAT YtokehhegomiciaaProg.lean LOADS. Nothing in Lean hashes anything: it is a label: what it is worth is what the hold of that sum in a sandbox is worth. -/
noncomputable def Try.pinned : Pinned := { name := "ytokehhegomiciaa", sum := "2c635290cbb4946ebf9cd75af2853250b505e1e293a09d98571afb39b5f03261", checked := Try.checked }
namespace Rows
def none {H : Type} : Left H := { results := [], args := [] }

/-- 'quernlaw17.ChkptOrder': WHATEVER THE INPUT: true; the input reads as it did. -/
def chkptOrderSpec : ChangeSpec := { name := "chkptOrder", fn := fun _ => fun
  | [d1, d2, d3, d4, d5] => { results := [.lit (.bool true)], args := [d1, d2, d3, d4, d5] }
  | _ => none }
def chkptOrderRow : OpenClaim := { program := "ytokehhegomiciaa", sum := "2c635290cbb4946ebf9cd75af2853250b505e1e293a09d98571afb39b5f03261", func := "quern/quernlaw17.ChkptOrder", spec := "chkptOrder", unfollowed := true, recurses := true, apart := false }
def ChkptOrderSaid : Prop := chkptOrderRow.holds Try.pinned (OpenSpec.ofChange chkptOrderSpec)

/-- ITS FALSE NEIGHBOUR: 'it returns false'. Refute it at one input. -/
def chkptOrderWrong : ChangeSpec := { name := "chkptOrder", fn := fun _ => fun
  | [d1, d2, d3, d4, d5] => { results := [.lit (.bool false)], args := [d1, d2, d3, d4, d5] }
  | _ => none }
def ChkptOrderWrongFalsely : Prop := chkptOrderRow.holds Try.pinned (OpenSpec.ofChange chkptOrderWrong)

/-- 'quernlaw17.ChkptSame': WHATEVER THE INPUT: true; the input reads as it did. -/
def chkptSameSpec : ChangeSpec := { name := "chkptSame", fn := fun _ => fun
  | [d1, d2] => { results := [.lit (.bool true)], args := [d1, d2] }
  | _ => none }
def chkptSameRow : OpenClaim := { program := "ytokehhegomiciaa", sum := "2c635290cbb4946ebf9cd75af2853250b505e1e293a09d98571afb39b5f03261", func := "quern/quernlaw17.ChkptSame", spec := "chkptSame", unfollowed := true, recurses := true, apart := false }
def ChkptSameSaid : Prop := chkptSameRow.holds Try.pinned (OpenSpec.ofChange chkptSameSpec)

/-- ITS FALSE NEIGHBOUR: 'it returns false'. Refute it at one input. -/
def chkptSameWrong : ChangeSpec := { name := "chkptSame", fn := fun _ => fun
  | [d1, d2] => { results := [.lit (.bool false)], args := [d1, d2] }
  | _ => none }
def ChkptSameWrongFalsely : Prop := chkptSameRow.holds Try.pinned (OpenSpec.ofChange chkptSameWrong)

/-- 'quernlaw17.ChkptDrains': WHATEVER THE INPUT: true; the input reads as it did. -/
def chkptDrainsSpec : ChangeSpec := { name := "chkptDrains", fn := fun _ => fun
  | [d1, d2, d3, d4] => { results := [.lit (.bool true)], args := [d1, d2, d3, d4] }
  | _ => none }
def chkptDrainsRow : OpenClaim := { program := "ytokehhegomiciaa", sum := "2c635290cbb4946ebf9cd75af2853250b505e1e293a09d98571afb39b5f03261", func := "quern/quernlaw17.ChkptDrains", spec := "chkptDrains", unfollowed := true, recurses := true, apart := false }
def ChkptDrainsSaid : Prop := chkptDrainsRow.holds Try.pinned (OpenSpec.ofChange chkptDrainsSpec)

/-- ITS FALSE NEIGHBOUR: 'it returns false'. Refute it at one input. -/
def chkptDrainsWrong : ChangeSpec := { name := "chkptDrains", fn := fun _ => fun
  | [d1, d2, d3, d4] => { results := [.lit (.bool false)], args := [d1, d2, d3, d4] }
  | _ => none }
def ChkptDrainsWrongFalsely : Prop := chkptDrainsRow.holds Try.pinned (OpenSpec.ofChange chkptDrainsWrong)

/-- 'quernlaw17.ChkptNewest': WHATEVER THE INPUT: true; the input reads as it did. -/
def chkptNewestSpec : ChangeSpec := { name := "chkptNewest", fn := fun _ => fun
  | [d1, d2, d3] => { results := [.lit (.bool true)], args := [d1, d2, d3] }
  | _ => none }
def chkptNewestRow : OpenClaim := { program := "ytokehhegomiciaa", sum := "2c635290cbb4946ebf9cd75af2853250b505e1e293a09d98571afb39b5f03261", func := "quern/quernlaw17.ChkptNewest", spec := "chkptNewest", unfollowed := true, recurses := true, apart := false }
def ChkptNewestSaid : Prop := chkptNewestRow.holds Try.pinned (OpenSpec.ofChange chkptNewestSpec)

/-- ITS FALSE NEIGHBOUR: 'it returns false'. Refute it at one input. -/
def chkptNewestWrong : ChangeSpec := { name := "chkptNewest", fn := fun _ => fun
  | [d1, d2, d3] => { results := [.lit (.bool false)], args := [d1, d2, d3] }
  | _ => none }
def ChkptNewestWrongFalsely : Prop := chkptNewestRow.holds Try.pinned (OpenSpec.ofChange chkptNewestWrong)

/-- 'quernlaw17.ChkptNil': WHATEVER THE INPUT: true; the input reads as it did. -/
def chkptNilSpec : ChangeSpec := { name := "chkptNil", fn := fun _ => fun
  | [d1, d2, d3, d4] => { results := [.lit (.bool true)], args := [d1, d2, d3, d4] }
  | _ => none }
def chkptNilRow : OpenClaim := { program := "ytokehhegomiciaa", sum := "2c635290cbb4946ebf9cd75af2853250b505e1e293a09d98571afb39b5f03261", func := "quern/quernlaw17.ChkptNil", spec := "chkptNil", unfollowed := true, recurses := true, apart := false }
def ChkptNilSaid : Prop := chkptNilRow.holds Try.pinned (OpenSpec.ofChange chkptNilSpec)

/-- ITS FALSE NEIGHBOUR: 'it returns false'. Refute it at one input. -/
def chkptNilWrong : ChangeSpec := { name := "chkptNil", fn := fun _ => fun
  | [d1, d2, d3, d4] => { results := [.lit (.bool false)], args := [d1, d2, d3, d4] }
  | _ => none }
def ChkptNilWrongFalsely : Prop := chkptNilRow.holds Try.pinned (OpenSpec.ofChange chkptNilWrong)

/- THE SECOND FORM. 'bulk': how many values and letters a reading holds, each counted each time it is reached (what is shared counts as often as it is met; a slice's spare places count too). A statement '..UptoSaid' is the law's where the arguments, and the package variables that the reading takes, are together of bulk at most 1048576: NARROWER than '..Said'. Prove '..Said' where nothing that the law and all that it calls make is longer than what came in: it says more and counts as full. Else prove '..UptoSaid'. A law counts once. -/
mutual
def uptoBulk {H : Type} : DataW H → Nat
  | .lit (.string bytes) => bytes.length + 1
  | .lit _ => 1
  | .nil => 1
  | .ptr d => uptoBulk d + 1
  | .slice elems spare => uptoBulkAll elems + uptoBulkAll spare + 1
  | .agg parts => uptoBulkAll parts + 1
  | .iface _ d => uptoBulk d + 1
  | .map entries => uptoBulkEntries entries + 1
  | .held _ => 1
def uptoBulkAll {H : Type} : List (DataW H) → Nat
  | [] => 0
  | d :: r => uptoBulk d + uptoBulkAll r
def uptoBulkEntries {H : Type} : List (Lit × DataW H) → Nat
  | [] => 0
  | x :: r => uptoBulkEntry x + uptoBulkEntries r
def uptoBulkEntry {H : Type} : Lit × DataW H → Nat
  | (.string bytes, d) => bytes.length + uptoBulk d + 1
  | (_, d) => uptoBulk d + 1
 end
def uptoSmall : (H : Type) → List (DataW H) → Bool := fun _ ds => decide (uptoBulkAll ds ≤ 1048576)
def OpenSpec.upto (s : _root_.Go.ChangeSpec) : _root_.Go.OpenSpec := { _root_.Go.OpenSpec.ofChange s with cond := some uptoSmall }

/-- 'quernlaw17.ChkptOrder', WHERE WHAT IT READS IS OF BULK AT MOST 1048576: true; the input reads as it did. -/
def chkptOrderUptoRow : OpenClaim := { program := "ytokehhegomiciaa", sum := "2c635290cbb4946ebf9cd75af2853250b505e1e293a09d98571afb39b5f03261", func := "quern/quernlaw17.ChkptOrder", spec := "chkptOrder", unfollowed := true, recurses := true, apart := false, narrowed := true }
def ChkptOrderUptoSaid : Prop := chkptOrderUptoRow.holds Try.pinned (OpenSpec.upto chkptOrderSpec)

/-- 'quernlaw17.ChkptSame', WHERE WHAT IT READS IS OF BULK AT MOST 1048576: true; the input reads as it did. -/
def chkptSameUptoRow : OpenClaim := { program := "ytokehhegomiciaa", sum := "2c635290cbb4946ebf9cd75af2853250b505e1e293a09d98571afb39b5f03261", func := "quern/quernlaw17.ChkptSame", spec := "chkptSame", unfollowed := true, recurses := true, apart := false, narrowed := true }
def ChkptSameUptoSaid : Prop := chkptSameUptoRow.holds Try.pinned (OpenSpec.upto chkptSameSpec)

/-- 'quernlaw17.ChkptDrains', WHERE WHAT IT READS IS OF BULK AT MOST 1048576: true; the input reads as it did. -/
def chkptDrainsUptoRow : OpenClaim := { program := "ytokehhegomiciaa", sum := "2c635290cbb4946ebf9cd75af2853250b505e1e293a09d98571afb39b5f03261", func := "quern/quernlaw17.ChkptDrains", spec := "chkptDrains", unfollowed := true, recurses := true, apart := false, narrowed := true }
def ChkptDrainsUptoSaid : Prop := chkptDrainsUptoRow.holds Try.pinned (OpenSpec.upto chkptDrainsSpec)

/-- 'quernlaw17.ChkptNewest', WHERE WHAT IT READS IS OF BULK AT MOST 1048576: true; the input reads as it did. -/
def chkptNewestUptoRow : OpenClaim := { program := "ytokehhegomiciaa", sum := "2c635290cbb4946ebf9cd75af2853250b505e1e293a09d98571afb39b5f03261", func := "quern/quernlaw17.ChkptNewest", spec := "chkptNewest", unfollowed := true, recurses := true, apart := false, narrowed := true }
def ChkptNewestUptoSaid : Prop := chkptNewestUptoRow.holds Try.pinned (OpenSpec.upto chkptNewestSpec)

/-- 'quernlaw17.ChkptNil', WHERE WHAT IT READS IS OF BULK AT MOST 1048576: true; the input reads as it did. -/
def chkptNilUptoRow : OpenClaim := { program := "ytokehhegomiciaa", sum := "2c635290cbb4946ebf9cd75af2853250b505e1e293a09d98571afb39b5f03261", func := "quern/quernlaw17.ChkptNil", spec := "chkptNil", unfollowed := true, recurses := true, apart := false, narrowed := true }
def ChkptNilUptoSaid : Prop := chkptNilUptoRow.holds Try.pinned (OpenSpec.upto chkptNilSpec)

end Rows
end Go.Proofs.Ytokehhegomiciaa
