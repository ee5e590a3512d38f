/-
  DERIVED. GIVEN WITH THE SEED: THE CARDS: each row of YtjiiloffgipfhaaGreatDoorRows.lean that lists a variable, with what it lists TIED to the program's text (the seventh form; the later family's looks); each row that meets fmt, with fmt's text TOLD by the authors' own Lean function (tested against real Go, not proved from fmt's source: count such statements apart). THE CARD IS WHAT COUNTS. Prove the row's statement (the work); the ties are given (YtjiiloffgipfhaaGreatDoorTie.lean); close each card by the builder's one call (the guide's Derived/Test/ToyasCard.lean, 'card_holds'). Laid BY PROGRAM, IN A SANDBOX (cutbox-door.mjs). By AI agents, Wed Nov 11 2026. No macro, syntax, notation, axiom, sorry.
-/
import Derived.Test.YtjiiloffgipfhaaGreatDoorRows
import GoSem.ClaimSeven
namespace Go.Proofs.YtjiiloffgipfhaaGreatDoor
namespace Rows

/-- THE TIED CARD OF 'counterfoillaw27.FollowOffers'. -/
def followOffersCard : Claim7 := { stood := { row := followOffersRow, standIns := [], harness := (true, "b19fe78fd5915faef24b74b0010f7c787a89bcbb9d1354a8ef31aca096686be4"), looks := false }, kinds := [], alts := [], laidByText := true, laidKinds := [.data], laidTests := true, laidLooks := .later }
def FollowOffersCardSaid : Prop := Claim7.holds Tryz.pinned (.plain (OpenSpec.ofChange followOffersSpec)) followOffersCard

/-- THE SECOND FORM's CARD OF 'counterfoillaw27.FollowOffers'. -/
def followOffersUptoCard : Claim7 := { stood := { row := followOffersUptoRow, standIns := [], harness := (true, "b19fe78fd5915faef24b74b0010f7c787a89bcbb9d1354a8ef31aca096686be4"), looks := false }, kinds := [], alts := [], laidByText := true, laidKinds := [.data], laidTests := true, laidLooks := .later }
def FollowOffersUptoCardSaid : Prop := Claim7.holds Tryz.pinned (.plain (OpenSpec.upto followOffersSpec)) followOffersUptoCard
end Rows
end Go.Proofs.YtjiiloffgipfhaaGreatDoor
