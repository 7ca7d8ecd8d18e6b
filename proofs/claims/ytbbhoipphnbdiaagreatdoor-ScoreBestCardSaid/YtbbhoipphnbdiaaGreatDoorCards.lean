/-
  DERIVED. GIVEN WITH THE SEED: THE CARDS: each row of YtbbhoipphnbdiaaGreatDoorRows.lean that lists a variable, with what it lists TIED to the program's text (the seventh form; the later family's looks); each row that meets fmt, with fmt's text TOLD by the authors' own Lean function (tested against real Go, not proved from fmt's source: count such statements apart). THE CARD IS WHAT COUNTS. Prove the row's statement (the work); the ties are given (YtbbhoipphnbdiaaGreatDoorTie.lean); close each card by the builder's one call (the guide's Derived/Test/ToyasCard.lean, 'card_holds'). Laid BY PROGRAM, IN A SANDBOX (cutbox-door.mjs). By AI agents, Wed Nov 11 2026. No macro, syntax, notation, axiom, sorry.
-/
import Derived.Test.YtbbhoipphnbdiaaGreatDoorRows
import GoSem.ClaimSeven
namespace Go.Proofs.YtbbhoipphnbdiaaGreatDoor
namespace Rows

/-- THE TIED CARD OF 'sparrowlaw05.ScoreBest'. -/
def scoreBestCard : Claim7 := { stood := { row := scoreBestRow, standIns := [], harness := (true, "be8232371579541c970f35fd565de5d41e0ae3ffda84640ef1316f005a99012e"), looks := false }, kinds := [], alts := [], laidByText := true, laidKinds := [.data, .data, .funcs, .pinned], laidTests := true, laidLooks := .later }
def ScoreBestCardSaid : Prop := Claim7.holds Tryz.pinned (.plain (OpenSpec.ofChange scoreBestSpec)) scoreBestCard

/-- THE TIED CARD OF 'sparrowlaw05.ScoreMoves'. -/
def scoreMovesCard : Claim7 := { stood := { row := scoreMovesRow, standIns := [], harness := (true, "be8232371579541c970f35fd565de5d41e0ae3ffda84640ef1316f005a99012e"), looks := false }, kinds := [], alts := [], laidByText := true, laidKinds := [.data, .data, .funcs, .pinned], laidTests := true, laidLooks := .later }
def ScoreMovesCardSaid : Prop := Claim7.holds Tryz.pinned (.plain (OpenSpec.ofChange scoreMovesSpec)) scoreMovesCard

/-- THE TIED CARD OF 'sparrowlaw05.ScoreKeeps'. -/
def scoreKeepsCard : Claim7 := { stood := { row := scoreKeepsRow, standIns := [], harness := (true, "be8232371579541c970f35fd565de5d41e0ae3ffda84640ef1316f005a99012e"), looks := false }, kinds := [], alts := [], laidByText := true, laidKinds := [.data, .data, .funcs, .pinned], laidTests := true, laidLooks := .later }
def ScoreKeepsCardSaid : Prop := Claim7.holds Tryz.pinned (.plain (OpenSpec.ofChange scoreKeepsSpec)) scoreKeepsCard

/-- THE TIED CARD OF 'sparrowlaw05.ScoreSums'. -/
def scoreSumsCard : Claim7 := { stood := { row := scoreSumsRow, standIns := [], harness := (true, "be8232371579541c970f35fd565de5d41e0ae3ffda84640ef1316f005a99012e"), looks := false }, kinds := [], alts := [], laidByText := true, laidKinds := [.data, .data, .funcs, .pinned], laidTests := true, laidLooks := .later }
def ScoreSumsCardSaid : Prop := Claim7.holds Tryz.pinned (.plain (OpenSpec.ofChange scoreSumsSpec)) scoreSumsCard

/-- THE SECOND FORM's CARD OF 'sparrowlaw05.ScoreBest'. -/
def scoreBestUptoCard : Claim7 := { stood := { row := scoreBestUptoRow, standIns := [], harness := (true, "be8232371579541c970f35fd565de5d41e0ae3ffda84640ef1316f005a99012e"), looks := false }, kinds := [], alts := [], laidByText := true, laidKinds := [.data, .data, .funcs, .pinned], laidTests := true, laidLooks := .later }
def ScoreBestUptoCardSaid : Prop := Claim7.holds Tryz.pinned (.plain (OpenSpec.upto scoreBestSpec)) scoreBestUptoCard

/-- THE SECOND FORM's CARD OF 'sparrowlaw05.ScoreMoves'. -/
def scoreMovesUptoCard : Claim7 := { stood := { row := scoreMovesUptoRow, standIns := [], harness := (true, "be8232371579541c970f35fd565de5d41e0ae3ffda84640ef1316f005a99012e"), looks := false }, kinds := [], alts := [], laidByText := true, laidKinds := [.data, .data, .funcs, .pinned], laidTests := true, laidLooks := .later }
def ScoreMovesUptoCardSaid : Prop := Claim7.holds Tryz.pinned (.plain (OpenSpec.upto scoreMovesSpec)) scoreMovesUptoCard

/-- THE SECOND FORM's CARD OF 'sparrowlaw05.ScoreKeeps'. -/
def scoreKeepsUptoCard : Claim7 := { stood := { row := scoreKeepsUptoRow, standIns := [], harness := (true, "be8232371579541c970f35fd565de5d41e0ae3ffda84640ef1316f005a99012e"), looks := false }, kinds := [], alts := [], laidByText := true, laidKinds := [.data, .data, .funcs, .pinned], laidTests := true, laidLooks := .later }
def ScoreKeepsUptoCardSaid : Prop := Claim7.holds Tryz.pinned (.plain (OpenSpec.upto scoreKeepsSpec)) scoreKeepsUptoCard

/-- THE SECOND FORM's CARD OF 'sparrowlaw05.ScoreSums'. -/
def scoreSumsUptoCard : Claim7 := { stood := { row := scoreSumsUptoRow, standIns := [], harness := (true, "be8232371579541c970f35fd565de5d41e0ae3ffda84640ef1316f005a99012e"), looks := false }, kinds := [], alts := [], laidByText := true, laidKinds := [.data, .data, .funcs, .pinned], laidTests := true, laidLooks := .later }
def ScoreSumsUptoCardSaid : Prop := Claim7.holds Tryz.pinned (.plain (OpenSpec.upto scoreSumsSpec)) scoreSumsUptoCard
end Rows
end Go.Proofs.YtbbhoipphnbdiaaGreatDoor
