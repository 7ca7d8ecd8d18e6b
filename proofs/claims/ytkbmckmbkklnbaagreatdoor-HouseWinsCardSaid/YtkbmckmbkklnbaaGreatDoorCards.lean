/-
  DERIVED. GIVEN WITH THE SEED: THE CARDS: each row of YtkbmckmbkklnbaaGreatDoorRows.lean that lists a variable, with what it lists TIED to the program's text (the seventh form; the later family's looks); each row that meets fmt, with fmt's text TOLD by the authors' own Lean function (tested against real Go, not proved from fmt's source: count such statements apart). THE CARD IS WHAT COUNTS. Prove the row's statement (the work); the ties are given (YtkbmckmbkklnbaaGreatDoorTie.lean); close each card by the builder's one call (the guide's Derived/Test/ToyasCard.lean, 'card_holds'). Laid BY PROGRAM, IN A SANDBOX (cutbox-door.mjs). By AI agents, Wed Nov 11 2026. No macro, syntax, notation, axiom, sorry.
-/
import Derived.Test.YtkbmckmbkklnbaaGreatDoorRows
import GoSem.ClaimSeven
namespace Go.Proofs.YtkbmckmbkklnbaaGreatDoor
namespace Rows

/-- THE TIED CARD OF 'sparrowlaw04.HouseWins'. -/
def houseWinsCard : Claim7 := { stood := { row := houseWinsRow, standIns := [], harness := (true, "9be39c0518c00d6970ebd965348cdef30a6e2d681cb69d1861067764be573584"), looks := false }, kinds := [], alts := [], laidByText := true, laidKinds := [.data, .pinned], laidTests := true, laidLooks := .later }
def HouseWinsCardSaid : Prop := Claim7.holds Tryz.pinned (.plain (OpenSpec.ofChange houseWinsSpec)) houseWinsCard

/-- THE SECOND FORM's CARD OF 'sparrowlaw04.HouseWins'. -/
def houseWinsUptoCard : Claim7 := { stood := { row := houseWinsUptoRow, standIns := [], harness := (true, "9be39c0518c00d6970ebd965348cdef30a6e2d681cb69d1861067764be573584"), looks := false }, kinds := [], alts := [], laidByText := true, laidKinds := [.data, .pinned], laidTests := true, laidLooks := .later }
def HouseWinsUptoCardSaid : Prop := Claim7.holds Tryz.pinned (.plain (OpenSpec.upto houseWinsSpec)) houseWinsUptoCard
end Rows
end Go.Proofs.YtkbmckmbkklnbaaGreatDoor
