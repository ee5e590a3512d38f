/-
  DERIVED. GIVEN WITH THE SEED: THE CARDS: each row of YtkecgdnmehgpjaaDoorRows.lean that lists a variable, with what it lists TIED to the program's text (the seventh form; the later family's looks); each row that meets fmt, with fmt's text TOLD by the authors' own Lean function (tested against real Go, not proved from fmt's source: count such statements apart). THE CARD IS WHAT COUNTS. Prove the row's statement (the work); the ties are given (YtkecgdnmehgpjaaDoorTie.lean); close each card by the builder's one call (the guide's Derived/Test/ToyasCard.lean, 'card_holds'). Laid BY PROGRAM, IN A SANDBOX (cutbox-door.mjs). By AI agents, Wed Nov 11 2026. No macro, syntax, notation, axiom, sorry.
-/
import Derived.Test.YtkecgdnmehgpjaaDoorRows
import GoSem.ClaimSeven
namespace Go.Proofs.YtkecgdnmehgpjaaDoor
namespace Rows

/-- THE TIED CARD OF 'counterfoillaw22.ConfigRestores'. -/
def configRestoresCard : Claim7 := { stood := { row := configRestoresRow, standIns := [], harness := (true, "6596429e876b8890c31702ae5720fd4d7b1b127f9d160b316681f1b898f511c7"), looks := false }, kinds := [], alts := [], laidByText := true, laidKinds := [.data], laidTests := true, laidLooks := .later }
def ConfigRestoresCardSaid : Prop := Claim7.holds Tryd.pinned (.plain (OpenSpec.ofChange configRestoresSpec)) configRestoresCard

/-- THE SECOND FORM's CARD OF 'counterfoillaw22.ConfigRestores'. -/
def configRestoresUptoCard : Claim7 := { stood := { row := configRestoresUptoRow, standIns := [], harness := (true, "6596429e876b8890c31702ae5720fd4d7b1b127f9d160b316681f1b898f511c7"), looks := false }, kinds := [], alts := [], laidByText := true, laidKinds := [.data], laidTests := true, laidLooks := .later }
def ConfigRestoresUptoCardSaid : Prop := Claim7.holds Tryd.pinned (.plain (OpenSpec.upto configRestoresSpec)) configRestoresUptoCard
end Rows
end Go.Proofs.YtkecgdnmehgpjaaDoor
