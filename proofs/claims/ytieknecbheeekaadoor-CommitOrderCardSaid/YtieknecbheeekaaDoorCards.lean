/-
  DERIVED. GIVEN WITH THE SEED: THE CARDS: each row of YtieknecbheeekaaDoorRows.lean that lists a variable, with what it lists TIED to the program's text (the seventh form; the later family's looks); each row that meets fmt, with fmt's text TOLD by the authors' own Lean function (tested against real Go, not proved from fmt's source: count such statements apart). THE CARD IS WHAT COUNTS. Prove the row's statement (the work); the ties are given (YtieknecbheeekaaDoorTie.lean); close each card by the builder's one call (the guide's Derived/Test/ToyasCard.lean, 'card_holds'). Laid BY PROGRAM, IN A SANDBOX (cutbox-door.mjs). By AI agents, Wed Nov 11 2026. No macro, syntax, notation, axiom, sorry.
-/
import Derived.Test.YtieknecbheeekaaDoorRows
import GoSem.ClaimSeven
namespace Go.Proofs.YtieknecbheeekaaDoor
namespace Rows

/-- THE TIED CARD OF 'quernlaw16.CommitOrder'. -/
def commitOrderCard : Claim7 := { stood := { row := commitOrderRow, standIns := [], harness := (true, "d684fd9f10eae1958546fd1f279a616d612f347e3179e9872297532ebaffeb7c"), looks := false }, kinds := [], alts := [], laidByText := true, laidKinds := [.data], laidTests := true, laidLooks := .later }
def CommitOrderCardSaid : Prop := Claim7.holds Tryd.pinned (.plain (OpenSpec.ofChange commitOrderSpec)) commitOrderCard

/-- THE TIED CARD OF 'quernlaw16.CommitNil'. -/
def commitNilCard : Claim7 := { stood := { row := commitNilRow, standIns := [], harness := (true, "d684fd9f10eae1958546fd1f279a616d612f347e3179e9872297532ebaffeb7c"), looks := false }, kinds := [], alts := [], laidByText := true, laidKinds := [.data], laidTests := true, laidLooks := .later }
def CommitNilCardSaid : Prop := Claim7.holds Tryd.pinned (.plain (OpenSpec.ofChange commitNilSpec)) commitNilCard

/-- THE SECOND FORM's CARD OF 'quernlaw16.CommitOrder'. -/
def commitOrderUptoCard : Claim7 := { stood := { row := commitOrderUptoRow, standIns := [], harness := (true, "d684fd9f10eae1958546fd1f279a616d612f347e3179e9872297532ebaffeb7c"), looks := false }, kinds := [], alts := [], laidByText := true, laidKinds := [.data], laidTests := true, laidLooks := .later }
def CommitOrderUptoCardSaid : Prop := Claim7.holds Tryd.pinned (.plain (OpenSpec.upto commitOrderSpec)) commitOrderUptoCard

/-- THE SECOND FORM's CARD OF 'quernlaw16.CommitNil'. -/
def commitNilUptoCard : Claim7 := { stood := { row := commitNilUptoRow, standIns := [], harness := (true, "d684fd9f10eae1958546fd1f279a616d612f347e3179e9872297532ebaffeb7c"), looks := false }, kinds := [], alts := [], laidByText := true, laidKinds := [.data], laidTests := true, laidLooks := .later }
def CommitNilUptoCardSaid : Prop := Claim7.holds Tryd.pinned (.plain (OpenSpec.upto commitNilSpec)) commitNilUptoCard
end Rows
end Go.Proofs.YtieknecbheeekaaDoor
