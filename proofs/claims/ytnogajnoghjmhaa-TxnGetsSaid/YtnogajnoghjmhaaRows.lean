/-
  No cell of these rows narrows 'for every input' (looked for: loops, veiled, ifaces, maps, wideKeys, modest, calm, conditions, laid).
  DERIVED. THE GIVEN ROWS OF THIS SEAT. 5 by the template 'for every input the law returns true; each argument reads behind the call as it read before'; 0 by the template 'total and deterministic' (their statements: YtnogajnoghjmhaaTotals.lean).
  GIVEN WITH THE SEED: the statements are not yours to turn. If you find one false, say at which input.
  Laid BY PROGRAM, IN A SANDBOX (cutbox-rows.mjs): the forced cells as the released guide's own fill.sh prints them over the translation 4072e7e5c149afab… (all of the seat's roots in one cut). By AI agents, Wed Nov 11 2026. No macro, syntax, notation, axiom, sorry.
-/
import Derived.Test.YtnogajnoghjmhaaChecked
import GoSem.Claim
import GoSem.ClaimJoined
import GoSem.ClaimMapViews
import Derived.JoinedTies
import Derived.KernelRfl
namespace Go.Proofs.Ytnogajnoghjmhaa
/- THE CELL 'sum', in the pinned program and in every row, IS THE sha256 OF THE DUMP (.gsa) THAT YtnogajnoghjmhaaProg.lean LOADS. Nothing in Lean hashes anything: it is a label: what it is worth is what the hold of that sum in a sandbox is worth. -/
noncomputable def Try.pinned : Pinned := { name := "ytnogajnoghjmhaa", sum := "4072e7e5c149afab1535fce3ac7c5296fc4c4fd409cf670be5c327d3886f8d15", checked := Try.checked }
namespace Rows
def none {H : Type} : Left H := { results := [], args := [] }

/-- 'quernlaw14.TxnGets': WHATEVER THE INPUT: true; the input reads as it did. -/
def txnGetsSpec : ChangeSpec := { name := "txnGets", fn := fun _ => fun
  | [d1, d2] => { results := [.lit (.bool true)], args := [d1, d2] }
  | _ => none }
def txnGetsRow : OpenClaim := { program := "ytnogajnoghjmhaa", sum := "4072e7e5c149afab1535fce3ac7c5296fc4c4fd409cf670be5c327d3886f8d15", func := "quern/quernlaw14.TxnGets", spec := "txnGets", inPlace := ["maps.clone"], unfollowed := true, recurses := true, plainKeys := false, apart := false }
def TxnGetsSaid : Prop := txnGetsRow.holds Try.pinned (OpenSpec.ofChange txnGetsSpec)

/-- ITS FALSE NEIGHBOUR: 'it returns false'. Refute it at one input. -/
def txnGetsWrong : ChangeSpec := { name := "txnGets", fn := fun _ => fun
  | [d1, d2] => { results := [.lit (.bool false)], args := [d1, d2] }
  | _ => none }
def TxnGetsWrongFalsely : Prop := txnGetsRow.holds Try.pinned (OpenSpec.ofChange txnGetsWrong)

/-- 'quernlaw14.TxnForgets': WHATEVER THE INPUT: true; the input reads as it did. -/
def txnForgetsSpec : ChangeSpec := { name := "txnForgets", fn := fun _ => fun
  | [d1, d2, d3, d4] => { results := [.lit (.bool true)], args := [d1, d2, d3, d4] }
  | _ => none }
def txnForgetsRow : OpenClaim := { program := "ytnogajnoghjmhaa", sum := "4072e7e5c149afab1535fce3ac7c5296fc4c4fd409cf670be5c327d3886f8d15", func := "quern/quernlaw14.TxnForgets", spec := "txnForgets", inPlace := ["maps.clone"], unfollowed := true, recurses := true, plainKeys := false, apart := false }
def TxnForgetsSaid : Prop := txnForgetsRow.holds Try.pinned (OpenSpec.ofChange txnForgetsSpec)

/-- ITS FALSE NEIGHBOUR: 'it returns false'. Refute it at one input. -/
def txnForgetsWrong : ChangeSpec := { name := "txnForgets", fn := fun _ => fun
  | [d1, d2, d3, d4] => { results := [.lit (.bool false)], args := [d1, d2, d3, d4] }
  | _ => none }
def TxnForgetsWrongFalsely : Prop := txnForgetsRow.holds Try.pinned (OpenSpec.ofChange txnForgetsWrong)

/-- 'quernlaw14.TxnLittle': WHATEVER THE INPUT: true; the input reads as it did. -/
def txnLittleSpec : ChangeSpec := { name := "txnLittle", fn := fun _ => fun
  | [d1, d2, d3, d4, d5] => { results := [.lit (.bool true)], args := [d1, d2, d3, d4, d5] }
  | _ => none }
def txnLittleRow : OpenClaim := { program := "ytnogajnoghjmhaa", sum := "4072e7e5c149afab1535fce3ac7c5296fc4c4fd409cf670be5c327d3886f8d15", func := "quern/quernlaw14.TxnLittle", spec := "txnLittle", inPlace := ["maps.clone"], unfollowed := true, recurses := true, plainKeys := false, apart := false }
def TxnLittleSaid : Prop := txnLittleRow.holds Try.pinned (OpenSpec.ofChange txnLittleSpec)

/-- ITS FALSE NEIGHBOUR: 'it returns false'. Refute it at one input. -/
def txnLittleWrong : ChangeSpec := { name := "txnLittle", fn := fun _ => fun
  | [d1, d2, d3, d4, d5] => { results := [.lit (.bool false)], args := [d1, d2, d3, d4, d5] }
  | _ => none }
def TxnLittleWrongFalsely : Prop := txnLittleRow.holds Try.pinned (OpenSpec.ofChange txnLittleWrong)

/-- 'quernlaw14.TxnUndone': WHATEVER THE INPUT: true; the input reads as it did. -/
def txnUndoneSpec : ChangeSpec := { name := "txnUndone", fn := fun _ => fun
  | [d1, d2, d3, d4, d5, d6] => { results := [.lit (.bool true)], args := [d1, d2, d3, d4, d5, d6] }
  | _ => none }
def txnUndoneRow : OpenClaim := { program := "ytnogajnoghjmhaa", sum := "4072e7e5c149afab1535fce3ac7c5296fc4c4fd409cf670be5c327d3886f8d15", func := "quern/quernlaw14.TxnUndone", spec := "txnUndone", inPlace := ["maps.clone"], unfollowed := true, recurses := true, plainKeys := false, apart := false }
def TxnUndoneSaid : Prop := txnUndoneRow.holds Try.pinned (OpenSpec.ofChange txnUndoneSpec)

/-- ITS FALSE NEIGHBOUR: 'it returns false'. Refute it at one input. -/
def txnUndoneWrong : ChangeSpec := { name := "txnUndone", fn := fun _ => fun
  | [d1, d2, d3, d4, d5, d6] => { results := [.lit (.bool false)], args := [d1, d2, d3, d4, d5, d6] }
  | _ => none }
def TxnUndoneWrongFalsely : Prop := txnUndoneRow.holds Try.pinned (OpenSpec.ofChange txnUndoneWrong)

/-- 'quernlaw14.TxnNil': WHATEVER THE INPUT: true; the input reads as it did. -/
def txnNilSpec : ChangeSpec := { name := "txnNil", fn := fun _ => fun
  | [d] => { results := [.lit (.bool true)], args := [d] }
  | _ => none }
def txnNilRow : OpenClaim := { program := "ytnogajnoghjmhaa", sum := "4072e7e5c149afab1535fce3ac7c5296fc4c4fd409cf670be5c327d3886f8d15", func := "quern/quernlaw14.TxnNil", spec := "txnNil", inPlace := ["maps.clone"], unfollowed := true, recurses := true, plainKeys := false, apart := false }
def TxnNilSaid : Prop := txnNilRow.holds Try.pinned (OpenSpec.ofChange txnNilSpec)

/-- ITS FALSE NEIGHBOUR: 'it returns false'. Refute it at one input. -/
def txnNilWrong : ChangeSpec := { name := "txnNil", fn := fun _ => fun
  | [d] => { results := [.lit (.bool false)], args := [d] }
  | _ => none }
def TxnNilWrongFalsely : Prop := txnNilRow.holds Try.pinned (OpenSpec.ofChange txnNilWrong)

/- THE SECOND FORM. 'bulk': how many values and letters a reading holds, each counted each time it is reached (what is shared counts as often as it is met; a slice's spare places count too). A statement '..UptoSaid' is the law's where the arguments, and the package variables that the reading takes, are together of bulk at most 1048576: NARROWER than '..Said'. Prove '..Said' where nothing that the law and all that it calls make is longer than what came in: it says more and counts as full. Else prove '..UptoSaid'. A law counts once. -/
mutual
def uptoBulk {H : Type} : DataW H → Nat
  | .lit (.string bytes) => bytes.length + 1
  | .lit _ => 1
  | .nil => 1
  | .ptr d => uptoBulk d + 1
  | .slice elems spare => uptoBulkAll elems + uptoBulkAll spare + 1
  | .agg parts => uptoBulkAll parts + 1
  | .iface _ d => uptoBulk d + 1
  | .map entries => uptoBulkEntries entries + 1
  | .held _ => 1
def uptoBulkAll {H : Type} : List (DataW H) → Nat
  | [] => 0
  | d :: r => uptoBulk d + uptoBulkAll r
def uptoBulkEntries {H : Type} : List (Lit × DataW H) → Nat
  | [] => 0
  | x :: r => uptoBulkEntry x + uptoBulkEntries r
def uptoBulkEntry {H : Type} : Lit × DataW H → Nat
  | (.string bytes, d) => bytes.length + uptoBulk d + 1
  | (_, d) => uptoBulk d + 1
 end
def uptoSmall : (H : Type) → List (DataW H) → Bool := fun _ ds => decide (uptoBulkAll ds ≤ 1048576)
def OpenSpec.upto (s : _root_.Go.ChangeSpec) : _root_.Go.OpenSpec := { _root_.Go.OpenSpec.ofChange s with cond := some uptoSmall }

/-- 'quernlaw14.TxnGets', WHERE WHAT IT READS IS OF BULK AT MOST 1048576: true; the input reads as it did. -/
def txnGetsUptoRow : OpenClaim := { program := "ytnogajnoghjmhaa", sum := "4072e7e5c149afab1535fce3ac7c5296fc4c4fd409cf670be5c327d3886f8d15", func := "quern/quernlaw14.TxnGets", spec := "txnGets", inPlace := ["maps.clone"], unfollowed := true, recurses := true, plainKeys := false, apart := false, narrowed := true }
def TxnGetsUptoSaid : Prop := txnGetsUptoRow.holds Try.pinned (OpenSpec.upto txnGetsSpec)

/-- 'quernlaw14.TxnForgets', WHERE WHAT IT READS IS OF BULK AT MOST 1048576: true; the input reads as it did. -/
def txnForgetsUptoRow : OpenClaim := { program := "ytnogajnoghjmhaa", sum := "4072e7e5c149afab1535fce3ac7c5296fc4c4fd409cf670be5c327d3886f8d15", func := "quern/quernlaw14.TxnForgets", spec := "txnForgets", inPlace := ["maps.clone"], unfollowed := true, recurses := true, plainKeys := false, apart := false, narrowed := true }
def TxnForgetsUptoSaid : Prop := txnForgetsUptoRow.holds Try.pinned (OpenSpec.upto txnForgetsSpec)

/-- 'quernlaw14.TxnLittle', WHERE WHAT IT READS IS OF BULK AT MOST 1048576: true; the input reads as it did. -/
def txnLittleUptoRow : OpenClaim := { program := "ytnogajnoghjmhaa", sum := "4072e7e5c149afab1535fce3ac7c5296fc4c4fd409cf670be5c327d3886f8d15", func := "quern/quernlaw14.TxnLittle", spec := "txnLittle", inPlace := ["maps.clone"], unfollowed := true, recurses := true, plainKeys := false, apart := false, narrowed := true }
def TxnLittleUptoSaid : Prop := txnLittleUptoRow.holds Try.pinned (OpenSpec.upto txnLittleSpec)

/-- 'quernlaw14.TxnUndone', WHERE WHAT IT READS IS OF BULK AT MOST 1048576: true; the input reads as it did. -/
def txnUndoneUptoRow : OpenClaim := { program := "ytnogajnoghjmhaa", sum := "4072e7e5c149afab1535fce3ac7c5296fc4c4fd409cf670be5c327d3886f8d15", func := "quern/quernlaw14.TxnUndone", spec := "txnUndone", inPlace := ["maps.clone"], unfollowed := true, recurses := true, plainKeys := false, apart := false, narrowed := true }
def TxnUndoneUptoSaid : Prop := txnUndoneUptoRow.holds Try.pinned (OpenSpec.upto txnUndoneSpec)

/-- 'quernlaw14.TxnNil', WHERE WHAT IT READS IS OF BULK AT MOST 1048576: true; the input reads as it did. -/
def txnNilUptoRow : OpenClaim := { program := "ytnogajnoghjmhaa", sum := "4072e7e5c149afab1535fce3ac7c5296fc4c4fd409cf670be5c327d3886f8d15", func := "quern/quernlaw14.TxnNil", spec := "txnNil", inPlace := ["maps.clone"], unfollowed := true, recurses := true, plainKeys := false, apart := false, narrowed := true }
def TxnNilUptoSaid : Prop := txnNilUptoRow.holds Try.pinned (OpenSpec.upto txnNilSpec)

end Rows
end Go.Proofs.Ytnogajnoghjmhaa
