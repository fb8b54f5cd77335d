/-
  NARROWER THAN 'FOR EVERY INPUT', by the rows' own cells (each row's printed sentence says how): CrcSums: laid · CrcJoins: laid · CrcFar: laid · CrcTells: laid · CrcMixed: laid · CrcPieces: laid · CrcBytes: laid.
  DERIVED. THE GIVEN ROWS OF THIS SEAT. 7 by the template 'for every input the law returns true; each argument reads behind the call as it read before'; 0 by the template 'total and deterministic' (their statements: YtcodhmfmdjopeaaDoorTotals.lean).
  GIVEN WITH THE SEED: the statements are not yours to turn. If you find one false, say at which input.
  Laid BY PROGRAM, IN A SANDBOX (cutbox-rows.mjs): the forced cells as the released guide's own fill.sh prints them over the translation 88563043eb2cb5ad… (all of the seat's roots in one cut). By AI agents, Wed Nov 11 2026. No macro, syntax, notation, axiom, sorry.
-/
import Derived.Test.YtcodhmfmdjopeaaDoorChecked
import GoSem.Claim
import GoSem.ClaimJoined
import GoSem.ClaimMapViews
import Derived.JoinedTies
import Derived.KernelRfl
namespace Go.Proofs.YtcodhmfmdjopeaaDoor
/- THE CELL 'sum', in the pinned program and in every row, IS THE sha256 OF THE DUMP (.gsa) THAT YtcodhmfmdjopeaaDoorProg.lean LOADS. Nothing in Lean hashes anything: it is a label: what it is worth is what the hold of that sum in a sandbox is worth. -/
noncomputable def Tryd.pinned : Pinned := { name := "ytcodhmfmdjopeaadoor", sum := "88563043eb2cb5adfd3f43925c0bfb7feb45cc15a9b6b76d500bbd71af192ffd", checked := Tryd.checked }
namespace Rows
def none {H : Type} : Left H := { results := [], args := [] }

/- WHAT THE LISTED PACKAGE-LEVEL VARIABLES READ AS WHEN THE CALL BEGINS. Each datum BY PROGRAM (the guide's laid-datum.mjs) off the statement by which the dump's own 'gosem.cut.vars' lays the variable. In a bare row this is a premise. The card (YtcodhmfmdjopeaaDoorCards.lean) ties it to the program's text. -/
def laid_quern_crc_steps {H : Type} : DataW H := .agg [.lit (.int .u32 0), .lit (.int .u32 498536548), .lit (.int .u32 997073096), .lit (.int .u32 651767980), .lit (.int .u32 1994146192), .lit (.int .u32 1802195444), .lit (.int .u32 1303535960), .lit (.int .u32 1342533948), .lit (.int .u32 3988292384), .lit (.int .u32 4027552580), .lit (.int .u32 3604390888), .lit (.int .u32 3412177804), .lit (.int .u32 2607071920), .lit (.int .u32 2262029012), .lit (.int .u32 2685067896), .lit (.int .u32 3183342108)]

/-- 'quernlaw02.CrcSums': WHATEVER THE INPUT: true; the input reads as it did. -/
def crcSumsSpec : ChangeSpec := { name := "crcSums", fn := fun _ => fun
  | [d] => { results := [.lit (.bool true)], args := [d] }
  | _ => none }
def crcSumsRow : OpenClaim := { program := "ytcodhmfmdjopeaadoor", sum := "88563043eb2cb5adfd3f43925c0bfb7feb45cc15a9b6b76d500bbd71af192ffd", func := "quern/quernlaw02.CrcSums", spec := "crcSums", named := ["quern/crc.steps"], apart := false, laid := [("quern/crc.steps", laid_quern_crc_steps)] }
def CrcSumsSaid : Prop := crcSumsRow.holds Tryd.pinned (OpenSpec.ofChange crcSumsSpec)

/-- ITS FALSE NEIGHBOUR: 'it returns false'. Refute it at one input. -/
def crcSumsWrong : ChangeSpec := { name := "crcSums", fn := fun _ => fun
  | [d] => { results := [.lit (.bool false)], args := [d] }
  | _ => none }
def CrcSumsWrongFalsely : Prop := crcSumsRow.holds Tryd.pinned (OpenSpec.ofChange crcSumsWrong)

/-- 'quernlaw02.CrcJoins': WHATEVER THE INPUT: true; the input reads as it did. -/
def crcJoinsSpec : ChangeSpec := { name := "crcJoins", fn := fun _ => fun
  | [d1, d2, d3] => { results := [.lit (.bool true)], args := [d1, d2, d3] }
  | _ => none }
def crcJoinsRow : OpenClaim := { program := "ytcodhmfmdjopeaadoor", sum := "88563043eb2cb5adfd3f43925c0bfb7feb45cc15a9b6b76d500bbd71af192ffd", func := "quern/quernlaw02.CrcJoins", spec := "crcJoins", named := ["quern/crc.steps"], apart := false, laid := [("quern/crc.steps", laid_quern_crc_steps)] }
def CrcJoinsSaid : Prop := crcJoinsRow.holds Tryd.pinned (OpenSpec.ofChange crcJoinsSpec)

/-- ITS FALSE NEIGHBOUR: 'it returns false'. Refute it at one input. -/
def crcJoinsWrong : ChangeSpec := { name := "crcJoins", fn := fun _ => fun
  | [d1, d2, d3] => { results := [.lit (.bool false)], args := [d1, d2, d3] }
  | _ => none }
def CrcJoinsWrongFalsely : Prop := crcJoinsRow.holds Tryd.pinned (OpenSpec.ofChange crcJoinsWrong)

/-- 'quernlaw02.CrcFar': WHATEVER THE INPUT: true; the input reads as it did. -/
def crcFarSpec : ChangeSpec := { name := "crcFar", fn := fun _ => fun
  | [d1, d2, d3, d4] => { results := [.lit (.bool true)], args := [d1, d2, d3, d4] }
  | _ => none }
def crcFarRow : OpenClaim := { program := "ytcodhmfmdjopeaadoor", sum := "88563043eb2cb5adfd3f43925c0bfb7feb45cc15a9b6b76d500bbd71af192ffd", func := "quern/quernlaw02.CrcFar", spec := "crcFar", named := ["quern/crc.steps"], apart := false, laid := [("quern/crc.steps", laid_quern_crc_steps)] }
def CrcFarSaid : Prop := crcFarRow.holds Tryd.pinned (OpenSpec.ofChange crcFarSpec)

/-- ITS FALSE NEIGHBOUR: 'it returns false'. Refute it at one input. -/
def crcFarWrong : ChangeSpec := { name := "crcFar", fn := fun _ => fun
  | [d1, d2, d3, d4] => { results := [.lit (.bool false)], args := [d1, d2, d3, d4] }
  | _ => none }
def CrcFarWrongFalsely : Prop := crcFarRow.holds Tryd.pinned (OpenSpec.ofChange crcFarWrong)

/-- 'quernlaw02.CrcTells': WHATEVER THE INPUT: true; the input reads as it did. -/
def crcTellsSpec : ChangeSpec := { name := "crcTells", fn := fun _ => fun
  | [d1, d2, d3] => { results := [.lit (.bool true)], args := [d1, d2, d3] }
  | _ => none }
def crcTellsRow : OpenClaim := { program := "ytcodhmfmdjopeaadoor", sum := "88563043eb2cb5adfd3f43925c0bfb7feb45cc15a9b6b76d500bbd71af192ffd", func := "quern/quernlaw02.CrcTells", spec := "crcTells", named := ["quern/crc.steps"], apart := false, laid := [("quern/crc.steps", laid_quern_crc_steps)] }
def CrcTellsSaid : Prop := crcTellsRow.holds Tryd.pinned (OpenSpec.ofChange crcTellsSpec)

/-- ITS FALSE NEIGHBOUR: 'it returns false'. Refute it at one input. -/
def crcTellsWrong : ChangeSpec := { name := "crcTells", fn := fun _ => fun
  | [d1, d2, d3] => { results := [.lit (.bool false)], args := [d1, d2, d3] }
  | _ => none }
def CrcTellsWrongFalsely : Prop := crcTellsRow.holds Tryd.pinned (OpenSpec.ofChange crcTellsWrong)

/-- 'quernlaw02.CrcMixed': WHATEVER THE INPUT: true; the input reads as it did. -/
def crcMixedSpec : ChangeSpec := { name := "crcMixed", fn := fun _ => fun
  | [d1, d2, d3] => { results := [.lit (.bool true)], args := [d1, d2, d3] }
  | _ => none }
def crcMixedRow : OpenClaim := { program := "ytcodhmfmdjopeaadoor", sum := "88563043eb2cb5adfd3f43925c0bfb7feb45cc15a9b6b76d500bbd71af192ffd", func := "quern/quernlaw02.CrcMixed", spec := "crcMixed", named := ["quern/crc.steps"], apart := false, laid := [("quern/crc.steps", laid_quern_crc_steps)] }
def CrcMixedSaid : Prop := crcMixedRow.holds Tryd.pinned (OpenSpec.ofChange crcMixedSpec)

/-- ITS FALSE NEIGHBOUR: 'it returns false'. Refute it at one input. -/
def crcMixedWrong : ChangeSpec := { name := "crcMixed", fn := fun _ => fun
  | [d1, d2, d3] => { results := [.lit (.bool false)], args := [d1, d2, d3] }
  | _ => none }
def CrcMixedWrongFalsely : Prop := crcMixedRow.holds Tryd.pinned (OpenSpec.ofChange crcMixedWrong)

/-- 'quernlaw02.CrcPieces': WHATEVER THE INPUT: true; the input reads as it did. -/
def crcPiecesSpec : ChangeSpec := { name := "crcPieces", fn := fun _ => fun
  | [d1, d2] => { results := [.lit (.bool true)], args := [d1, d2] }
  | _ => none }
def crcPiecesRow : OpenClaim := { program := "ytcodhmfmdjopeaadoor", sum := "88563043eb2cb5adfd3f43925c0bfb7feb45cc15a9b6b76d500bbd71af192ffd", func := "quern/quernlaw02.CrcPieces", spec := "crcPieces", named := ["quern/crc.steps"], apart := false, laid := [("quern/crc.steps", laid_quern_crc_steps)] }
def CrcPiecesSaid : Prop := crcPiecesRow.holds Tryd.pinned (OpenSpec.ofChange crcPiecesSpec)

/-- ITS FALSE NEIGHBOUR: 'it returns false'. Refute it at one input. -/
def crcPiecesWrong : ChangeSpec := { name := "crcPieces", fn := fun _ => fun
  | [d1, d2] => { results := [.lit (.bool false)], args := [d1, d2] }
  | _ => none }
def CrcPiecesWrongFalsely : Prop := crcPiecesRow.holds Tryd.pinned (OpenSpec.ofChange crcPiecesWrong)

/-- 'quernlaw02.CrcBytes': WHATEVER THE INPUT: true; the input reads as it did. -/
def crcBytesSpec : ChangeSpec := { name := "crcBytes", fn := fun _ => fun
  | [d1, d2] => { results := [.lit (.bool true)], args := [d1, d2] }
  | _ => none }
def crcBytesRow : OpenClaim := { program := "ytcodhmfmdjopeaadoor", sum := "88563043eb2cb5adfd3f43925c0bfb7feb45cc15a9b6b76d500bbd71af192ffd", func := "quern/quernlaw02.CrcBytes", spec := "crcBytes", named := ["quern/crc.steps"], apart := false, laid := [("quern/crc.steps", laid_quern_crc_steps)] }
def CrcBytesSaid : Prop := crcBytesRow.holds Tryd.pinned (OpenSpec.ofChange crcBytesSpec)

/-- ITS FALSE NEIGHBOUR: 'it returns false'. Refute it at one input. -/
def crcBytesWrong : ChangeSpec := { name := "crcBytes", fn := fun _ => fun
  | [d1, d2] => { results := [.lit (.bool false)], args := [d1, d2] }
  | _ => none }
def CrcBytesWrongFalsely : Prop := crcBytesRow.holds Tryd.pinned (OpenSpec.ofChange crcBytesWrong)

/- THE SECOND FORM. 'bulk': how many values and letters a reading holds, each counted each time it is reached (what is shared counts as often as it is met; a slice's spare places count too). A statement '..UptoSaid' is the law's where the arguments, and the package variables that the reading takes, are together of bulk at most 1048576: NARROWER than '..Said'. Prove '..Said' where nothing that the law and all that it calls make is longer than what came in: it says more and counts as full. Else prove '..UptoSaid'. A law counts once. -/
mutual
def uptoBulk {H : Type} : DataW H → Nat
  | .lit (.string bytes) => bytes.length + 1
  | .lit _ => 1
  | .nil => 1
  | .ptr d => uptoBulk d + 1
  | .slice elems spare => uptoBulkAll elems + uptoBulkAll spare + 1
  | .agg parts => uptoBulkAll parts + 1
  | .iface _ d => uptoBulk d + 1
  | .map entries => uptoBulkEntries entries + 1
  | .held _ => 1
def uptoBulkAll {H : Type} : List (DataW H) → Nat
  | [] => 0
  | d :: r => uptoBulk d + uptoBulkAll r
def uptoBulkEntries {H : Type} : List (Lit × DataW H) → Nat
  | [] => 0
  | x :: r => uptoBulkEntry x + uptoBulkEntries r
def uptoBulkEntry {H : Type} : Lit × DataW H → Nat
  | (.string bytes, d) => bytes.length + uptoBulk d + 1
  | (_, d) => uptoBulk d + 1
 end
def uptoSmall : (H : Type) → List (DataW H) → Bool := fun _ ds => decide (uptoBulkAll ds ≤ 1048576)
def OpenSpec.upto (s : _root_.Go.ChangeSpec) : _root_.Go.OpenSpec := { _root_.Go.OpenSpec.ofChange s with cond := some uptoSmall }

/-- 'quernlaw02.CrcSums', WHERE WHAT IT READS IS OF BULK AT MOST 1048576: true; the input reads as it did. -/
def crcSumsUptoRow : OpenClaim := { program := "ytcodhmfmdjopeaadoor", sum := "88563043eb2cb5adfd3f43925c0bfb7feb45cc15a9b6b76d500bbd71af192ffd", func := "quern/quernlaw02.CrcSums", spec := "crcSums", named := ["quern/crc.steps"], apart := false, laid := [("quern/crc.steps", laid_quern_crc_steps)], narrowed := true }
def CrcSumsUptoSaid : Prop := crcSumsUptoRow.holds Tryd.pinned (OpenSpec.upto crcSumsSpec)

/-- 'quernlaw02.CrcJoins', WHERE WHAT IT READS IS OF BULK AT MOST 1048576: true; the input reads as it did. -/
def crcJoinsUptoRow : OpenClaim := { program := "ytcodhmfmdjopeaadoor", sum := "88563043eb2cb5adfd3f43925c0bfb7feb45cc15a9b6b76d500bbd71af192ffd", func := "quern/quernlaw02.CrcJoins", spec := "crcJoins", named := ["quern/crc.steps"], apart := false, laid := [("quern/crc.steps", laid_quern_crc_steps)], narrowed := true }
def CrcJoinsUptoSaid : Prop := crcJoinsUptoRow.holds Tryd.pinned (OpenSpec.upto crcJoinsSpec)

/-- 'quernlaw02.CrcFar', WHERE WHAT IT READS IS OF BULK AT MOST 1048576: true; the input reads as it did. -/
def crcFarUptoRow : OpenClaim := { program := "ytcodhmfmdjopeaadoor", sum := "88563043eb2cb5adfd3f43925c0bfb7feb45cc15a9b6b76d500bbd71af192ffd", func := "quern/quernlaw02.CrcFar", spec := "crcFar", named := ["quern/crc.steps"], apart := false, laid := [("quern/crc.steps", laid_quern_crc_steps)], narrowed := true }
def CrcFarUptoSaid : Prop := crcFarUptoRow.holds Tryd.pinned (OpenSpec.upto crcFarSpec)

/-- 'quernlaw02.CrcTells', WHERE WHAT IT READS IS OF BULK AT MOST 1048576: true; the input reads as it did. -/
def crcTellsUptoRow : OpenClaim := { program := "ytcodhmfmdjopeaadoor", sum := "88563043eb2cb5adfd3f43925c0bfb7feb45cc15a9b6b76d500bbd71af192ffd", func := "quern/quernlaw02.CrcTells", spec := "crcTells", named := ["quern/crc.steps"], apart := false, laid := [("quern/crc.steps", laid_quern_crc_steps)], narrowed := true }
def CrcTellsUptoSaid : Prop := crcTellsUptoRow.holds Tryd.pinned (OpenSpec.upto crcTellsSpec)

/-- 'quernlaw02.CrcMixed', WHERE WHAT IT READS IS OF BULK AT MOST 1048576: true; the input reads as it did. -/
def crcMixedUptoRow : OpenClaim := { program := "ytcodhmfmdjopeaadoor", sum := "88563043eb2cb5adfd3f43925c0bfb7feb45cc15a9b6b76d500bbd71af192ffd", func := "quern/quernlaw02.CrcMixed", spec := "crcMixed", named := ["quern/crc.steps"], apart := false, laid := [("quern/crc.steps", laid_quern_crc_steps)], narrowed := true }
def CrcMixedUptoSaid : Prop := crcMixedUptoRow.holds Tryd.pinned (OpenSpec.upto crcMixedSpec)

/-- 'quernlaw02.CrcPieces', WHERE WHAT IT READS IS OF BULK AT MOST 1048576: true; the input reads as it did. -/
def crcPiecesUptoRow : OpenClaim := { program := "ytcodhmfmdjopeaadoor", sum := "88563043eb2cb5adfd3f43925c0bfb7feb45cc15a9b6b76d500bbd71af192ffd", func := "quern/quernlaw02.CrcPieces", spec := "crcPieces", named := ["quern/crc.steps"], apart := false, laid := [("quern/crc.steps", laid_quern_crc_steps)], narrowed := true }
def CrcPiecesUptoSaid : Prop := crcPiecesUptoRow.holds Tryd.pinned (OpenSpec.upto crcPiecesSpec)

/-- 'quernlaw02.CrcBytes', WHERE WHAT IT READS IS OF BULK AT MOST 1048576: true; the input reads as it did. -/
def crcBytesUptoRow : OpenClaim := { program := "ytcodhmfmdjopeaadoor", sum := "88563043eb2cb5adfd3f43925c0bfb7feb45cc15a9b6b76d500bbd71af192ffd", func := "quern/quernlaw02.CrcBytes", spec := "crcBytes", named := ["quern/crc.steps"], apart := false, laid := [("quern/crc.steps", laid_quern_crc_steps)], narrowed := true }
def CrcBytesUptoSaid : Prop := crcBytesUptoRow.holds Tryd.pinned (OpenSpec.upto crcBytesSpec)

end Rows
end Go.Proofs.YtcodhmfmdjopeaaDoor
