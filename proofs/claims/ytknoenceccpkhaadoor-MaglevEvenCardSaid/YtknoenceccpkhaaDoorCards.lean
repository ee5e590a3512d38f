/-
  DERIVED. GIVEN WITH THE SEED: THE CARDS: each row of YtknoenceccpkhaaDoorRows.lean that lists a variable, with what it lists TIED to the program's text (the seventh form; the later family's looks); each row that meets fmt, with fmt's text TOLD by the authors' own Lean function (tested against real Go, not proved from fmt's source: count such statements apart). THE CARD IS WHAT COUNTS. Prove the row's statement (the work); the ties are given (YtknoenceccpkhaaDoorTie.lean); close each card by the builder's one call (the guide's Derived/Test/ToyasCard.lean, 'card_holds'). Laid BY PROGRAM, IN A SANDBOX (cutbox-door.mjs). By AI agents, Wed Nov 11 2026. No macro, syntax, notation, axiom, sorry.
-/
import Derived.Test.YtknoenceccpkhaaDoorRows
import GoSem.ClaimSeven
namespace Go.Proofs.YtknoenceccpkhaaDoor
namespace Rows

/-- THE TIED CARD OF 'counterfoillaw42.MaglevBuilds'. -/
def maglevBuildsCard : Claim7 := { stood := { row := maglevBuildsRow, standIns := [], harness := (true, "33e34e14c690c84642b34616a5b1f38ba346240f1b23365e7fbbee0eab182b08"), looks := false }, kinds := [], alts := [], laidByText := true, laidKinds := [.data], laidTests := true, laidLooks := .later }
def MaglevBuildsCardSaid : Prop := Claim7.holds Tryd.pinned (.plain (OpenSpec.ofChange maglevBuildsSpec)) maglevBuildsCard

/-- THE TIED CARD OF 'counterfoillaw42.MaglevEven'. -/
def maglevEvenCard : Claim7 := { stood := { row := maglevEvenRow, standIns := [], harness := (true, "33e34e14c690c84642b34616a5b1f38ba346240f1b23365e7fbbee0eab182b08"), looks := false }, kinds := [], alts := [], laidByText := true, laidKinds := [.data], laidTests := true, laidLooks := .later }
def MaglevEvenCardSaid : Prop := Claim7.holds Tryd.pinned (.plain (OpenSpec.ofChange maglevEvenSpec)) maglevEvenCard

/-- THE SECOND FORM's CARD OF 'counterfoillaw42.MaglevBuilds'. -/
def maglevBuildsUptoCard : Claim7 := { stood := { row := maglevBuildsUptoRow, standIns := [], harness := (true, "33e34e14c690c84642b34616a5b1f38ba346240f1b23365e7fbbee0eab182b08"), looks := false }, kinds := [], alts := [], laidByText := true, laidKinds := [.data], laidTests := true, laidLooks := .later }
def MaglevBuildsUptoCardSaid : Prop := Claim7.holds Tryd.pinned (.plain (OpenSpec.upto maglevBuildsSpec)) maglevBuildsUptoCard

/-- THE SECOND FORM's CARD OF 'counterfoillaw42.MaglevEven'. -/
def maglevEvenUptoCard : Claim7 := { stood := { row := maglevEvenUptoRow, standIns := [], harness := (true, "33e34e14c690c84642b34616a5b1f38ba346240f1b23365e7fbbee0eab182b08"), looks := false }, kinds := [], alts := [], laidByText := true, laidKinds := [.data], laidTests := true, laidLooks := .later }
def MaglevEvenUptoCardSaid : Prop := Claim7.holds Tryd.pinned (.plain (OpenSpec.upto maglevEvenSpec)) maglevEvenUptoCard
end Rows
end Go.Proofs.YtknoenceccpkhaaDoor
