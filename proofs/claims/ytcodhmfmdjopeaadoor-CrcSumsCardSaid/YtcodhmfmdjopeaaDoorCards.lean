/-
  DERIVED. GIVEN WITH THE SEED: THE CARDS: each row of YtcodhmfmdjopeaaDoorRows.lean that lists a variable, with what it lists TIED to the program's text (the seventh form; the later family's looks); each row that meets fmt, with fmt's text TOLD by the authors' own Lean function (tested against real Go, not proved from fmt's source: count such statements apart). THE CARD IS WHAT COUNTS. Prove the row's statement (the work); the ties are given (YtcodhmfmdjopeaaDoorTie.lean); close each card by the builder's one call (the guide's Derived/Test/ToyasCard.lean, 'card_holds'). Laid BY PROGRAM, IN A SANDBOX (cutbox-door.mjs). By AI agents, Wed Nov 11 2026. No macro, syntax, notation, axiom, sorry.
-/
import Derived.Test.YtcodhmfmdjopeaaDoorRows
import GoSem.ClaimSeven
namespace Go.Proofs.YtcodhmfmdjopeaaDoor
namespace Rows

/-- THE TIED CARD OF 'quernlaw02.CrcSums'. -/
def crcSumsCard : Claim7 := { stood := { row := crcSumsRow, standIns := [], harness := (true, "7506115a13ecbd68dadbf907760a51d4c9ce54c5de1124e88642100cd4344ecc"), looks := false }, kinds := [], alts := [], laidByText := true, laidKinds := [.data], laidTests := true, laidLooks := .later }
def CrcSumsCardSaid : Prop := Claim7.holds Tryd.pinned (.plain (OpenSpec.ofChange crcSumsSpec)) crcSumsCard

/-- THE TIED CARD OF 'quernlaw02.CrcJoins'. -/
def crcJoinsCard : Claim7 := { stood := { row := crcJoinsRow, standIns := [], harness := (true, "7506115a13ecbd68dadbf907760a51d4c9ce54c5de1124e88642100cd4344ecc"), looks := false }, kinds := [], alts := [], laidByText := true, laidKinds := [.data], laidTests := true, laidLooks := .later }
def CrcJoinsCardSaid : Prop := Claim7.holds Tryd.pinned (.plain (OpenSpec.ofChange crcJoinsSpec)) crcJoinsCard

/-- THE TIED CARD OF 'quernlaw02.CrcFar'. -/
def crcFarCard : Claim7 := { stood := { row := crcFarRow, standIns := [], harness := (true, "7506115a13ecbd68dadbf907760a51d4c9ce54c5de1124e88642100cd4344ecc"), looks := false }, kinds := [], alts := [], laidByText := true, laidKinds := [.data], laidTests := true, laidLooks := .later }
def CrcFarCardSaid : Prop := Claim7.holds Tryd.pinned (.plain (OpenSpec.ofChange crcFarSpec)) crcFarCard

/-- THE TIED CARD OF 'quernlaw02.CrcTells'. -/
def crcTellsCard : Claim7 := { stood := { row := crcTellsRow, standIns := [], harness := (true, "7506115a13ecbd68dadbf907760a51d4c9ce54c5de1124e88642100cd4344ecc"), looks := false }, kinds := [], alts := [], laidByText := true, laidKinds := [.data], laidTests := true, laidLooks := .later }
def CrcTellsCardSaid : Prop := Claim7.holds Tryd.pinned (.plain (OpenSpec.ofChange crcTellsSpec)) crcTellsCard

/-- THE TIED CARD OF 'quernlaw02.CrcMixed'. -/
def crcMixedCard : Claim7 := { stood := { row := crcMixedRow, standIns := [], harness := (true, "7506115a13ecbd68dadbf907760a51d4c9ce54c5de1124e88642100cd4344ecc"), looks := false }, kinds := [], alts := [], laidByText := true, laidKinds := [.data], laidTests := true, laidLooks := .later }
def CrcMixedCardSaid : Prop := Claim7.holds Tryd.pinned (.plain (OpenSpec.ofChange crcMixedSpec)) crcMixedCard

/-- THE TIED CARD OF 'quernlaw02.CrcPieces'. -/
def crcPiecesCard : Claim7 := { stood := { row := crcPiecesRow, standIns := [], harness := (true, "7506115a13ecbd68dadbf907760a51d4c9ce54c5de1124e88642100cd4344ecc"), looks := false }, kinds := [], alts := [], laidByText := true, laidKinds := [.data], laidTests := true, laidLooks := .later }
def CrcPiecesCardSaid : Prop := Claim7.holds Tryd.pinned (.plain (OpenSpec.ofChange crcPiecesSpec)) crcPiecesCard

/-- THE TIED CARD OF 'quernlaw02.CrcBytes'. -/
def crcBytesCard : Claim7 := { stood := { row := crcBytesRow, standIns := [], harness := (true, "7506115a13ecbd68dadbf907760a51d4c9ce54c5de1124e88642100cd4344ecc"), looks := false }, kinds := [], alts := [], laidByText := true, laidKinds := [.data], laidTests := true, laidLooks := .later }
def CrcBytesCardSaid : Prop := Claim7.holds Tryd.pinned (.plain (OpenSpec.ofChange crcBytesSpec)) crcBytesCard

/-- THE SECOND FORM's CARD OF 'quernlaw02.CrcSums'. -/
def crcSumsUptoCard : Claim7 := { stood := { row := crcSumsUptoRow, standIns := [], harness := (true, "7506115a13ecbd68dadbf907760a51d4c9ce54c5de1124e88642100cd4344ecc"), looks := false }, kinds := [], alts := [], laidByText := true, laidKinds := [.data], laidTests := true, laidLooks := .later }
def CrcSumsUptoCardSaid : Prop := Claim7.holds Tryd.pinned (.plain (OpenSpec.upto crcSumsSpec)) crcSumsUptoCard

/-- THE SECOND FORM's CARD OF 'quernlaw02.CrcJoins'. -/
def crcJoinsUptoCard : Claim7 := { stood := { row := crcJoinsUptoRow, standIns := [], harness := (true, "7506115a13ecbd68dadbf907760a51d4c9ce54c5de1124e88642100cd4344ecc"), looks := false }, kinds := [], alts := [], laidByText := true, laidKinds := [.data], laidTests := true, laidLooks := .later }
def CrcJoinsUptoCardSaid : Prop := Claim7.holds Tryd.pinned (.plain (OpenSpec.upto crcJoinsSpec)) crcJoinsUptoCard

/-- THE SECOND FORM's CARD OF 'quernlaw02.CrcFar'. -/
def crcFarUptoCard : Claim7 := { stood := { row := crcFarUptoRow, standIns := [], harness := (true, "7506115a13ecbd68dadbf907760a51d4c9ce54c5de1124e88642100cd4344ecc"), looks := false }, kinds := [], alts := [], laidByText := true, laidKinds := [.data], laidTests := true, laidLooks := .later }
def CrcFarUptoCardSaid : Prop := Claim7.holds Tryd.pinned (.plain (OpenSpec.upto crcFarSpec)) crcFarUptoCard

/-- THE SECOND FORM's CARD OF 'quernlaw02.CrcTells'. -/
def crcTellsUptoCard : Claim7 := { stood := { row := crcTellsUptoRow, standIns := [], harness := (true, "7506115a13ecbd68dadbf907760a51d4c9ce54c5de1124e88642100cd4344ecc"), looks := false }, kinds := [], alts := [], laidByText := true, laidKinds := [.data], laidTests := true, laidLooks := .later }
def CrcTellsUptoCardSaid : Prop := Claim7.holds Tryd.pinned (.plain (OpenSpec.upto crcTellsSpec)) crcTellsUptoCard

/-- THE SECOND FORM's CARD OF 'quernlaw02.CrcMixed'. -/
def crcMixedUptoCard : Claim7 := { stood := { row := crcMixedUptoRow, standIns := [], harness := (true, "7506115a13ecbd68dadbf907760a51d4c9ce54c5de1124e88642100cd4344ecc"), looks := false }, kinds := [], alts := [], laidByText := true, laidKinds := [.data], laidTests := true, laidLooks := .later }
def CrcMixedUptoCardSaid : Prop := Claim7.holds Tryd.pinned (.plain (OpenSpec.upto crcMixedSpec)) crcMixedUptoCard

/-- THE SECOND FORM's CARD OF 'quernlaw02.CrcPieces'. -/
def crcPiecesUptoCard : Claim7 := { stood := { row := crcPiecesUptoRow, standIns := [], harness := (true, "7506115a13ecbd68dadbf907760a51d4c9ce54c5de1124e88642100cd4344ecc"), looks := false }, kinds := [], alts := [], laidByText := true, laidKinds := [.data], laidTests := true, laidLooks := .later }
def CrcPiecesUptoCardSaid : Prop := Claim7.holds Tryd.pinned (.plain (OpenSpec.upto crcPiecesSpec)) crcPiecesUptoCard

/-- THE SECOND FORM's CARD OF 'quernlaw02.CrcBytes'. -/
def crcBytesUptoCard : Claim7 := { stood := { row := crcBytesUptoRow, standIns := [], harness := (true, "7506115a13ecbd68dadbf907760a51d4c9ce54c5de1124e88642100cd4344ecc"), looks := false }, kinds := [], alts := [], laidByText := true, laidKinds := [.data], laidTests := true, laidLooks := .later }
def CrcBytesUptoCardSaid : Prop := Claim7.holds Tryd.pinned (.plain (OpenSpec.upto crcBytesSpec)) crcBytesUptoCard
end Rows
end Go.Proofs.YtcodhmfmdjopeaaDoor
