/-
  DERIVED. GIVEN WITH THE SEED: THE CARDS: each row of YtoihlmdcgagegaaGreatDoorRows.lean that lists a variable, with what it lists TIED to the program's text (the seventh form; the later family's looks); each row that meets fmt, with fmt's text TOLD by the authors' own Lean function (tested against real Go, not proved from fmt's source: count such statements apart). THE CARD IS WHAT COUNTS. Prove the row's statement (the work); the ties are given (YtoihlmdcgagegaaGreatDoorTie.lean); close each card by the builder's one call (the guide's Derived/Test/ToyasCard.lean, 'card_holds'). Laid BY PROGRAM, IN A SANDBOX (cutbox-door.mjs). By AI agents, Wed Nov 11 2026. No macro, syntax, notation, axiom, sorry.
-/
import Derived.Test.YtoihlmdcgagegaaGreatDoorRows
import GoSem.ClaimSeven
namespace Go.Proofs.YtoihlmdcgagegaaGreatDoor
namespace Rows

/-- THE TIED CARD OF 'sparrowlaw04.HouseConds'. -/
def houseCondsCard : Claim7 := { stood := { row := houseCondsRow, standIns := [], harness := (true, "44792b2c08f32cfb5256e8f5737c1a6cb416fe65da60da8abcfec615474159df"), looks := false }, kinds := [], alts := [], laidByText := true, laidKinds := [.data, .pinned], laidTests := true, laidLooks := .later }
def HouseCondsCardSaid : Prop := Claim7.holds Tryz.pinned (.plain (OpenSpec.ofChange houseCondsSpec)) houseCondsCard

/-- THE TIED CARD OF 'sparrowlaw04.HouseRules'. -/
def houseRulesCard : Claim7 := { stood := { row := houseRulesRow, standIns := [], harness := (true, "44792b2c08f32cfb5256e8f5737c1a6cb416fe65da60da8abcfec615474159df"), looks := false }, kinds := [], alts := [], laidByText := true, laidKinds := [.data, .pinned], laidTests := true, laidLooks := .later }
def HouseRulesCardSaid : Prop := Claim7.holds Tryz.pinned (.plain (OpenSpec.ofChange houseRulesSpec)) houseRulesCard

/-- THE TIED CARD OF 'sparrowlaw04.HouseWins'. -/
def houseWinsCard : Claim7 := { stood := { row := houseWinsRow, standIns := [], harness := (true, "44792b2c08f32cfb5256e8f5737c1a6cb416fe65da60da8abcfec615474159df"), looks := false }, kinds := [], alts := [], laidByText := true, laidKinds := [.data, .pinned], laidTests := true, laidLooks := .later }
def HouseWinsCardSaid : Prop := Claim7.holds Tryz.pinned (.plain (OpenSpec.ofChange houseWinsSpec)) houseWinsCard

/-- THE SECOND FORM's CARD OF 'sparrowlaw04.HouseConds'. -/
def houseCondsUptoCard : Claim7 := { stood := { row := houseCondsUptoRow, standIns := [], harness := (true, "44792b2c08f32cfb5256e8f5737c1a6cb416fe65da60da8abcfec615474159df"), looks := false }, kinds := [], alts := [], laidByText := true, laidKinds := [.data, .pinned], laidTests := true, laidLooks := .later }
def HouseCondsUptoCardSaid : Prop := Claim7.holds Tryz.pinned (.plain (OpenSpec.upto houseCondsSpec)) houseCondsUptoCard

/-- THE SECOND FORM's CARD OF 'sparrowlaw04.HouseRules'. -/
def houseRulesUptoCard : Claim7 := { stood := { row := houseRulesUptoRow, standIns := [], harness := (true, "44792b2c08f32cfb5256e8f5737c1a6cb416fe65da60da8abcfec615474159df"), looks := false }, kinds := [], alts := [], laidByText := true, laidKinds := [.data, .pinned], laidTests := true, laidLooks := .later }
def HouseRulesUptoCardSaid : Prop := Claim7.holds Tryz.pinned (.plain (OpenSpec.upto houseRulesSpec)) houseRulesUptoCard

/-- THE SECOND FORM's CARD OF 'sparrowlaw04.HouseWins'. -/
def houseWinsUptoCard : Claim7 := { stood := { row := houseWinsUptoRow, standIns := [], harness := (true, "44792b2c08f32cfb5256e8f5737c1a6cb416fe65da60da8abcfec615474159df"), looks := false }, kinds := [], alts := [], laidByText := true, laidKinds := [.data, .pinned], laidTests := true, laidLooks := .later }
def HouseWinsUptoCardSaid : Prop := Claim7.holds Tryz.pinned (.plain (OpenSpec.upto houseWinsSpec)) houseWinsUptoCard
end Rows
end Go.Proofs.YtoihlmdcgagegaaGreatDoor
