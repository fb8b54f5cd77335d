/-
  No cell of these rows narrows 'for every input' (looked for: loops, veiled, ifaces, maps, wideKeys, modest, calm, conditions, laid).
  DERIVED. THE GIVEN ROWS OF THIS SEAT. 7 by the template 'for every input the law returns true; each argument reads behind the call as it read before'; 0 by the template 'total and deterministic' (their statements: YtlhhbkpocpnebaaTotals.lean).
  GIVEN WITH THE SEED: the statements are not yours to turn. If you find one false, say at which input.
  Laid BY PROGRAM, IN A SANDBOX (cutbox-rows.mjs): the forced cells as the released guide's own fill.sh prints them over the translation 78d6e13ff15cbc69… (all of the seat's roots in one cut). By AI agents, Wed Nov 11 2026. No macro, syntax, notation, axiom, sorry.
-/
import Derived.Test.YtlhhbkpocpnebaaChecked
import GoSem.Claim
import GoSem.ClaimJoined
import GoSem.ClaimMapViews
import Derived.JoinedTies
import Derived.KernelRfl
namespace Go.Proofs.Ytlhhbkpocpnebaa
/- THE CELL 'sum', in the pinned program and in every row, IS THE sha256 OF THE DUMP (.gsa) THAT YtlhhbkpocpnebaaProg.lean LOADS. Nothing in Lean hashes anything: it is a label: what it is worth is what the hold of that sum in a sandbox is worth. -/
noncomputable def Try.pinned : Pinned := { name := "ytlhhbkpocpnebaa", sum := "78d6e13ff15cbc69b9a7cade3cca6379d3804ae9b7c05c232b183c830e3fb475", checked := Try.checked }
namespace Rows
def none {H : Type} : Left H := { results := [], args := [] }

/-- 'quernlaw19.ReplayOverlay': WHATEVER THE INPUT: true; the input reads as it did. -/
def replayOverlaySpec : ChangeSpec := { name := "replayOverlay", fn := fun _ => fun
  | [d1, d2] => { results := [.lit (.bool true)], args := [d1, d2] }
  | _ => none }
def replayOverlayRow : OpenClaim := { program := "ytlhhbkpocpnebaa", sum := "78d6e13ff15cbc69b9a7cade3cca6379d3804ae9b7c05c232b183c830e3fb475", func := "quern/quernlaw19.ReplayOverlay", spec := "replayOverlay", recurses := true, apart := false }
def ReplayOverlaySaid : Prop := replayOverlayRow.holds Try.pinned (OpenSpec.ofChange replayOverlaySpec)

/-- ITS FALSE NEIGHBOUR: 'it returns false'. Refute it at one input. -/
def replayOverlayWrong : ChangeSpec := { name := "replayOverlay", fn := fun _ => fun
  | [d1, d2] => { results := [.lit (.bool false)], args := [d1, d2] }
  | _ => none }
def ReplayOverlayWrongFalsely : Prop := replayOverlayRow.holds Try.pinned (OpenSpec.ofChange replayOverlayWrong)

/-- 'quernlaw19.ReplayNone': WHATEVER THE INPUT: true; the input reads as it did. -/
def replayNoneSpec : ChangeSpec := { name := "replayNone", fn := fun _ => fun
  | [d1, d2, d3] => { results := [.lit (.bool true)], args := [d1, d2, d3] }
  | _ => none }
def replayNoneRow : OpenClaim := { program := "ytlhhbkpocpnebaa", sum := "78d6e13ff15cbc69b9a7cade3cca6379d3804ae9b7c05c232b183c830e3fb475", func := "quern/quernlaw19.ReplayNone", spec := "replayNone", unfollowed := true, recurses := true, apart := false }
def ReplayNoneSaid : Prop := replayNoneRow.holds Try.pinned (OpenSpec.ofChange replayNoneSpec)

/-- ITS FALSE NEIGHBOUR: 'it returns false'. Refute it at one input. -/
def replayNoneWrong : ChangeSpec := { name := "replayNone", fn := fun _ => fun
  | [d1, d2, d3] => { results := [.lit (.bool false)], args := [d1, d2, d3] }
  | _ => none }
def ReplayNoneWrongFalsely : Prop := replayNoneRow.holds Try.pinned (OpenSpec.ofChange replayNoneWrong)

/-- 'quernlaw19.ReplayRevoked': WHATEVER THE INPUT: true; the input reads as it did. -/
def replayRevokedSpec : ChangeSpec := { name := "replayRevoked", fn := fun _ => fun
  | [d] => { results := [.lit (.bool true)], args := [d] }
  | _ => none }
def replayRevokedRow : OpenClaim := { program := "ytlhhbkpocpnebaa", sum := "78d6e13ff15cbc69b9a7cade3cca6379d3804ae9b7c05c232b183c830e3fb475", func := "quern/quernlaw19.ReplayRevoked", spec := "replayRevoked", unfollowed := true, recurses := true, apart := false }
def ReplayRevokedSaid : Prop := replayRevokedRow.holds Try.pinned (OpenSpec.ofChange replayRevokedSpec)

/-- ITS FALSE NEIGHBOUR: 'it returns false'. Refute it at one input. -/
def replayRevokedWrong : ChangeSpec := { name := "replayRevoked", fn := fun _ => fun
  | [d] => { results := [.lit (.bool false)], args := [d] }
  | _ => none }
def ReplayRevokedWrongFalsely : Prop := replayRevokedRow.holds Try.pinned (OpenSpec.ofChange replayRevokedWrong)

/-- 'quernlaw19.ReplayLast': WHATEVER THE INPUT: true; the input reads as it did. -/
def replayLastSpec : ChangeSpec := { name := "replayLast", fn := fun _ => fun
  | [d1, d2] => { results := [.lit (.bool true)], args := [d1, d2] }
  | _ => none }
def replayLastRow : OpenClaim := { program := "ytlhhbkpocpnebaa", sum := "78d6e13ff15cbc69b9a7cade3cca6379d3804ae9b7c05c232b183c830e3fb475", func := "quern/quernlaw19.ReplayLast", spec := "replayLast", unfollowed := true, recurses := true, apart := false }
def ReplayLastSaid : Prop := replayLastRow.holds Try.pinned (OpenSpec.ofChange replayLastSpec)

/-- ITS FALSE NEIGHBOUR: 'it returns false'. Refute it at one input. -/
def replayLastWrong : ChangeSpec := { name := "replayLast", fn := fun _ => fun
  | [d1, d2] => { results := [.lit (.bool false)], args := [d1, d2] }
  | _ => none }
def ReplayLastWrongFalsely : Prop := replayLastRow.holds Try.pinned (OpenSpec.ofChange replayLastWrong)

/-- 'quernlaw19.ReplayRevokes': WHATEVER THE INPUT: true; the input reads as it did. -/
def replayRevokesSpec : ChangeSpec := { name := "replayRevokes", fn := fun _ => fun
  | [d] => { results := [.lit (.bool true)], args := [d] }
  | _ => none }
def replayRevokesRow : OpenClaim := { program := "ytlhhbkpocpnebaa", sum := "78d6e13ff15cbc69b9a7cade3cca6379d3804ae9b7c05c232b183c830e3fb475", func := "quern/quernlaw19.ReplayRevokes", spec := "replayRevokes", unfollowed := true, recurses := true, apart := false }
def ReplayRevokesSaid : Prop := replayRevokesRow.holds Try.pinned (OpenSpec.ofChange replayRevokesSpec)

/-- ITS FALSE NEIGHBOUR: 'it returns false'. Refute it at one input. -/
def replayRevokesWrong : ChangeSpec := { name := "replayRevokes", fn := fun _ => fun
  | [d] => { results := [.lit (.bool false)], args := [d] }
  | _ => none }
def ReplayRevokesWrongFalsely : Prop := replayRevokesRow.holds Try.pinned (OpenSpec.ofChange replayRevokesWrong)

/-- 'quernlaw19.ReplayTwice': WHATEVER THE INPUT: true; the input reads as it did. -/
def replayTwiceSpec : ChangeSpec := { name := "replayTwice", fn := fun _ => fun
  | [d1, d2] => { results := [.lit (.bool true)], args := [d1, d2] }
  | _ => none }
def replayTwiceRow : OpenClaim := { program := "ytlhhbkpocpnebaa", sum := "78d6e13ff15cbc69b9a7cade3cca6379d3804ae9b7c05c232b183c830e3fb475", func := "quern/quernlaw19.ReplayTwice", spec := "replayTwice", unfollowed := true, recurses := true, apart := false }
def ReplayTwiceSaid : Prop := replayTwiceRow.holds Try.pinned (OpenSpec.ofChange replayTwiceSpec)

/-- ITS FALSE NEIGHBOUR: 'it returns false'. Refute it at one input. -/
def replayTwiceWrong : ChangeSpec := { name := "replayTwice", fn := fun _ => fun
  | [d1, d2] => { results := [.lit (.bool false)], args := [d1, d2] }
  | _ => none }
def ReplayTwiceWrongFalsely : Prop := replayTwiceRow.holds Try.pinned (OpenSpec.ofChange replayTwiceWrong)

/-- 'quernlaw19.ReplayDoes': WHATEVER THE INPUT: true; the input reads as it did. -/
def replayDoesSpec : ChangeSpec := { name := "replayDoes", fn := fun _ => fun
  | [d1, d2, d3, d4, d5] => { results := [.lit (.bool true)], args := [d1, d2, d3, d4, d5] }
  | _ => none }
def replayDoesRow : OpenClaim := { program := "ytlhhbkpocpnebaa", sum := "78d6e13ff15cbc69b9a7cade3cca6379d3804ae9b7c05c232b183c830e3fb475", func := "quern/quernlaw19.ReplayDoes", spec := "replayDoes", unfollowed := true, recurses := true, apart := false }
def ReplayDoesSaid : Prop := replayDoesRow.holds Try.pinned (OpenSpec.ofChange replayDoesSpec)

/-- ITS FALSE NEIGHBOUR: 'it returns false'. Refute it at one input. -/
def replayDoesWrong : ChangeSpec := { name := "replayDoes", fn := fun _ => fun
  | [d1, d2, d3, d4, d5] => { results := [.lit (.bool false)], args := [d1, d2, d3, d4, d5] }
  | _ => none }
def ReplayDoesWrongFalsely : Prop := replayDoesRow.holds Try.pinned (OpenSpec.ofChange replayDoesWrong)

/- THE SECOND FORM. 'bulk': how many values and letters a reading holds, each counted each time it is reached (what is shared counts as often as it is met; a slice's spare places count too). A statement '..UptoSaid' is the law's where the arguments, and the package variables that the reading takes, are together of bulk at most 1048576: NARROWER than '..Said'. Prove '..Said' where nothing that the law and all that it calls make is longer than what came in: it says more and counts as full. Else prove '..UptoSaid'. A law counts once. -/
mutual
def uptoBulk {H : Type} : DataW H → Nat
  | .lit (.string bytes) => bytes.length + 1
  | .lit _ => 1
  | .nil => 1
  | .ptr d => uptoBulk d + 1
  | .slice elems spare => uptoBulkAll elems + uptoBulkAll spare + 1
  | .agg parts => uptoBulkAll parts + 1
  | .iface _ d => uptoBulk d + 1
  | .map entries => uptoBulkEntries entries + 1
  | .held _ => 1
def uptoBulkAll {H : Type} : List (DataW H) → Nat
  | [] => 0
  | d :: r => uptoBulk d + uptoBulkAll r
def uptoBulkEntries {H : Type} : List (Lit × DataW H) → Nat
  | [] => 0
  | x :: r => uptoBulkEntry x + uptoBulkEntries r
def uptoBulkEntry {H : Type} : Lit × DataW H → Nat
  | (.string bytes, d) => bytes.length + uptoBulk d + 1
  | (_, d) => uptoBulk d + 1
 end
def uptoSmall : (H : Type) → List (DataW H) → Bool := fun _ ds => decide (uptoBulkAll ds ≤ 1048576)
def OpenSpec.upto (s : _root_.Go.ChangeSpec) : _root_.Go.OpenSpec := { _root_.Go.OpenSpec.ofChange s with cond := some uptoSmall }

/-- 'quernlaw19.ReplayOverlay', WHERE WHAT IT READS IS OF BULK AT MOST 1048576: true; the input reads as it did. -/
def replayOverlayUptoRow : OpenClaim := { program := "ytlhhbkpocpnebaa", sum := "78d6e13ff15cbc69b9a7cade3cca6379d3804ae9b7c05c232b183c830e3fb475", func := "quern/quernlaw19.ReplayOverlay", spec := "replayOverlay", recurses := true, apart := false, narrowed := true }
def ReplayOverlayUptoSaid : Prop := replayOverlayUptoRow.holds Try.pinned (OpenSpec.upto replayOverlaySpec)

/-- 'quernlaw19.ReplayNone', WHERE WHAT IT READS IS OF BULK AT MOST 1048576: true; the input reads as it did. -/
def replayNoneUptoRow : OpenClaim := { program := "ytlhhbkpocpnebaa", sum := "78d6e13ff15cbc69b9a7cade3cca6379d3804ae9b7c05c232b183c830e3fb475", func := "quern/quernlaw19.ReplayNone", spec := "replayNone", unfollowed := true, recurses := true, apart := false, narrowed := true }
def ReplayNoneUptoSaid : Prop := replayNoneUptoRow.holds Try.pinned (OpenSpec.upto replayNoneSpec)

/-- 'quernlaw19.ReplayRevoked', WHERE WHAT IT READS IS OF BULK AT MOST 1048576: true; the input reads as it did. -/
def replayRevokedUptoRow : OpenClaim := { program := "ytlhhbkpocpnebaa", sum := "78d6e13ff15cbc69b9a7cade3cca6379d3804ae9b7c05c232b183c830e3fb475", func := "quern/quernlaw19.ReplayRevoked", spec := "replayRevoked", unfollowed := true, recurses := true, apart := false, narrowed := true }
def ReplayRevokedUptoSaid : Prop := replayRevokedUptoRow.holds Try.pinned (OpenSpec.upto replayRevokedSpec)

/-- 'quernlaw19.ReplayLast', WHERE WHAT IT READS IS OF BULK AT MOST 1048576: true; the input reads as it did. -/
def replayLastUptoRow : OpenClaim := { program := "ytlhhbkpocpnebaa", sum := "78d6e13ff15cbc69b9a7cade3cca6379d3804ae9b7c05c232b183c830e3fb475", func := "quern/quernlaw19.ReplayLast", spec := "replayLast", unfollowed := true, recurses := true, apart := false, narrowed := true }
def ReplayLastUptoSaid : Prop := replayLastUptoRow.holds Try.pinned (OpenSpec.upto replayLastSpec)

/-- 'quernlaw19.ReplayRevokes', WHERE WHAT IT READS IS OF BULK AT MOST 1048576: true; the input reads as it did. -/
def replayRevokesUptoRow : OpenClaim := { program := "ytlhhbkpocpnebaa", sum := "78d6e13ff15cbc69b9a7cade3cca6379d3804ae9b7c05c232b183c830e3fb475", func := "quern/quernlaw19.ReplayRevokes", spec := "replayRevokes", unfollowed := true, recurses := true, apart := false, narrowed := true }
def ReplayRevokesUptoSaid : Prop := replayRevokesUptoRow.holds Try.pinned (OpenSpec.upto replayRevokesSpec)

/-- 'quernlaw19.ReplayTwice', WHERE WHAT IT READS IS OF BULK AT MOST 1048576: true; the input reads as it did. -/
def replayTwiceUptoRow : OpenClaim := { program := "ytlhhbkpocpnebaa", sum := "78d6e13ff15cbc69b9a7cade3cca6379d3804ae9b7c05c232b183c830e3fb475", func := "quern/quernlaw19.ReplayTwice", spec := "replayTwice", unfollowed := true, recurses := true, apart := false, narrowed := true }
def ReplayTwiceUptoSaid : Prop := replayTwiceUptoRow.holds Try.pinned (OpenSpec.upto replayTwiceSpec)

/-- 'quernlaw19.ReplayDoes', WHERE WHAT IT READS IS OF BULK AT MOST 1048576: true; the input reads as it did. -/
def replayDoesUptoRow : OpenClaim := { program := "ytlhhbkpocpnebaa", sum := "78d6e13ff15cbc69b9a7cade3cca6379d3804ae9b7c05c232b183c830e3fb475", func := "quern/quernlaw19.ReplayDoes", spec := "replayDoes", unfollowed := true, recurses := true, apart := false, narrowed := true }
def ReplayDoesUptoSaid : Prop := replayDoesUptoRow.holds Try.pinned (OpenSpec.upto replayDoesSpec)

end Rows
end Go.Proofs.Ytlhhbkpocpnebaa
