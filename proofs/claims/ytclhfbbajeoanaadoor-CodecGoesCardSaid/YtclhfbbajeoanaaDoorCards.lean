/-
  DERIVED. GIVEN WITH THE SEED: THE CARDS: each row of YtclhfbbajeoanaaDoorRows.lean that lists a variable, with what it lists TIED to the program's text (the seventh form; the later family's looks); each row that meets fmt, with fmt's text TOLD by the authors' own Lean function (tested against real Go, not proved from fmt's source: count such statements apart). THE CARD IS WHAT COUNTS. Prove the row's statement (the work); the ties are given (YtclhfbbajeoanaaDoorTie.lean); close each card by the builder's one call (the guide's Derived/Test/ToyasCard.lean, 'card_holds'). Laid BY PROGRAM, IN A SANDBOX (cutbox-door.mjs). By AI agents, Wed Nov 11 2026. No macro, syntax, notation, axiom, sorry.
-/
import Derived.Test.YtclhfbbajeoanaaDoorRows
import GoSem.ClaimSeven
namespace Go.Proofs.YtclhfbbajeoanaaDoor
namespace Rows

/-- THE TIED CARD OF 'counterfoillaw22.ConfigRestores'. -/
def configRestoresCard : Claim7 := { stood := { row := configRestoresRow, standIns := [], harness := (true, "dd603607582f69ddc815f90b6459eaf00e556134f6562598a20f936b5e935a0c"), looks := false }, kinds := [], alts := [], laidByText := true, laidKinds := [.data], laidTests := true, laidLooks := .later }
def ConfigRestoresCardSaid : Prop := Claim7.holds Tryd.pinned (.plain (OpenSpec.ofChange configRestoresSpec)) configRestoresCard

/-- THE TIED CARD OF 'counterfoillaw23.CodecGoes'. -/
def codecGoesCard : Claim7 := { stood := { row := codecGoesRow, standIns := [], harness := (true, "dd603607582f69ddc815f90b6459eaf00e556134f6562598a20f936b5e935a0c"), looks := false }, kinds := [], alts := [], laidByText := true, laidKinds := [.data], laidTests := true, laidLooks := .later }
def CodecGoesCardSaid : Prop := Claim7.holds Tryd.pinned (.plain (OpenSpec.ofChange codecGoesSpec)) codecGoesCard

/-- THE SECOND FORM's CARD OF 'counterfoillaw22.ConfigRestores'. -/
def configRestoresUptoCard : Claim7 := { stood := { row := configRestoresUptoRow, standIns := [], harness := (true, "dd603607582f69ddc815f90b6459eaf00e556134f6562598a20f936b5e935a0c"), looks := false }, kinds := [], alts := [], laidByText := true, laidKinds := [.data], laidTests := true, laidLooks := .later }
def ConfigRestoresUptoCardSaid : Prop := Claim7.holds Tryd.pinned (.plain (OpenSpec.upto configRestoresSpec)) configRestoresUptoCard

/-- THE SECOND FORM's CARD OF 'counterfoillaw23.CodecGoes'. -/
def codecGoesUptoCard : Claim7 := { stood := { row := codecGoesUptoRow, standIns := [], harness := (true, "dd603607582f69ddc815f90b6459eaf00e556134f6562598a20f936b5e935a0c"), looks := false }, kinds := [], alts := [], laidByText := true, laidKinds := [.data], laidTests := true, laidLooks := .later }
def CodecGoesUptoCardSaid : Prop := Claim7.holds Tryd.pinned (.plain (OpenSpec.upto codecGoesSpec)) codecGoesUptoCard
end Rows
end Go.Proofs.YtclhfbbajeoanaaDoor
