/-
  DERIVED. GIVEN WITH THE SEED: THE CARDS: each row of YtfgeogepihjdiaaGreatDoorRows.lean that lists a variable, with what it lists TIED to the program's text (the seventh form; the later family's looks); each row that meets fmt, with fmt's text TOLD by the authors' own Lean function (tested against real Go, not proved from fmt's source: count such statements apart). THE CARD IS WHAT COUNTS. Prove the row's statement (the work); the ties are given (YtfgeogepihjdiaaGreatDoorTie.lean); close each card by the builder's one call (the guide's Derived/Test/ToyasCard.lean, 'card_holds'). Laid BY PROGRAM, IN A SANDBOX (cutbox-door.mjs). By AI agents, Wed Nov 11 2026. No macro, syntax, notation, axiom, sorry.
-/
import Derived.Test.YtfgeogepihjdiaaGreatDoorRows
import GoSem.ClaimSeven
namespace Go.Proofs.YtfgeogepihjdiaaGreatDoor
namespace Rows

/-- THE TIED CARD OF 'sparrowlaw05.ScoreChooses'. -/
def scoreChoosesCard : Claim7 := { stood := { row := scoreChoosesRow, standIns := [], harness := (true, "b47b8a67730d8976234e6426c99cc39db9f50a2fb94098cf01686ddf5ce014e8"), looks := false }, kinds := [], alts := [], laidByText := true, laidKinds := [.data, .data, .funcs, .pinned], laidTests := true, laidLooks := .later }
def ScoreChoosesCardSaid : Prop := Claim7.holds Tryz.pinned (.plain (OpenSpec.ofChange scoreChoosesSpec)) scoreChoosesCard

/-- THE TIED CARD OF 'sparrowlaw05.ScoreBest'. -/
def scoreBestCard : Claim7 := { stood := { row := scoreBestRow, standIns := [], harness := (true, "b47b8a67730d8976234e6426c99cc39db9f50a2fb94098cf01686ddf5ce014e8"), looks := false }, kinds := [], alts := [], laidByText := true, laidKinds := [.data, .data, .funcs, .pinned], laidTests := true, laidLooks := .later }
def ScoreBestCardSaid : Prop := Claim7.holds Tryz.pinned (.plain (OpenSpec.ofChange scoreBestSpec)) scoreBestCard

/-- THE TIED CARD OF 'sparrowlaw05.ScoreMoves'. -/
def scoreMovesCard : Claim7 := { stood := { row := scoreMovesRow, standIns := [], harness := (true, "b47b8a67730d8976234e6426c99cc39db9f50a2fb94098cf01686ddf5ce014e8"), looks := false }, kinds := [], alts := [], laidByText := true, laidKinds := [.data, .data, .funcs, .pinned], laidTests := true, laidLooks := .later }
def ScoreMovesCardSaid : Prop := Claim7.holds Tryz.pinned (.plain (OpenSpec.ofChange scoreMovesSpec)) scoreMovesCard

/-- THE TIED CARD OF 'sparrowlaw05.ScoreKeeps'. -/
def scoreKeepsCard : Claim7 := { stood := { row := scoreKeepsRow, standIns := [], harness := (true, "b47b8a67730d8976234e6426c99cc39db9f50a2fb94098cf01686ddf5ce014e8"), looks := false }, kinds := [], alts := [], laidByText := true, laidKinds := [.data, .data, .funcs, .pinned], laidTests := true, laidLooks := .later }
def ScoreKeepsCardSaid : Prop := Claim7.holds Tryz.pinned (.plain (OpenSpec.ofChange scoreKeepsSpec)) scoreKeepsCard

/-- THE TIED CARD OF 'sparrowlaw05.ScorePays'. -/
def scorePaysCard : Claim7 := { stood := { row := scorePaysRow, standIns := [], harness := (true, "b47b8a67730d8976234e6426c99cc39db9f50a2fb94098cf01686ddf5ce014e8"), looks := false }, kinds := [], alts := [], laidByText := true, laidKinds := [.data, .data, .funcs, .pinned], laidTests := true, laidLooks := .later }
def ScorePaysCardSaid : Prop := Claim7.holds Tryz.pinned (.plain (OpenSpec.ofChange scorePaysSpec)) scorePaysCard

/-- THE TIED CARD OF 'sparrowlaw05.ScoreSettles'. -/
def scoreSettlesCard : Claim7 := { stood := { row := scoreSettlesRow, standIns := [], harness := (true, "b47b8a67730d8976234e6426c99cc39db9f50a2fb94098cf01686ddf5ce014e8"), looks := false }, kinds := [], alts := [], laidByText := true, laidKinds := [.data, .data, .funcs, .pinned], laidTests := true, laidLooks := .later }
def ScoreSettlesCardSaid : Prop := Claim7.holds Tryz.pinned (.plain (OpenSpec.ofChange scoreSettlesSpec)) scoreSettlesCard

/-- THE TIED CARD OF 'sparrowlaw05.ScoreSums'. -/
def scoreSumsCard : Claim7 := { stood := { row := scoreSumsRow, standIns := [], harness := (true, "b47b8a67730d8976234e6426c99cc39db9f50a2fb94098cf01686ddf5ce014e8"), looks := false }, kinds := [], alts := [], laidByText := true, laidKinds := [.data, .data, .funcs, .pinned], laidTests := true, laidLooks := .later }
def ScoreSumsCardSaid : Prop := Claim7.holds Tryz.pinned (.plain (OpenSpec.ofChange scoreSumsSpec)) scoreSumsCard

/-- THE TIED CARD OF 'sparrowlaw05.ScoreFeeds'. -/
def scoreFeedsCard : Claim7 := { stood := { row := scoreFeedsRow, standIns := [], harness := (true, "b47b8a67730d8976234e6426c99cc39db9f50a2fb94098cf01686ddf5ce014e8"), looks := false }, kinds := [], alts := [], laidByText := true, laidKinds := [.data, .data, .funcs, .pinned], laidTests := true, laidLooks := .later }
def ScoreFeedsCardSaid : Prop := Claim7.holds Tryz.pinned (.plain (OpenSpec.ofChange scoreFeedsSpec)) scoreFeedsCard

/-- THE SECOND FORM's CARD OF 'sparrowlaw05.ScoreChooses'. -/
def scoreChoosesUptoCard : Claim7 := { stood := { row := scoreChoosesUptoRow, standIns := [], harness := (true, "b47b8a67730d8976234e6426c99cc39db9f50a2fb94098cf01686ddf5ce014e8"), looks := false }, kinds := [], alts := [], laidByText := true, laidKinds := [.data, .data, .funcs, .pinned], laidTests := true, laidLooks := .later }
def ScoreChoosesUptoCardSaid : Prop := Claim7.holds Tryz.pinned (.plain (OpenSpec.upto scoreChoosesSpec)) scoreChoosesUptoCard

/-- THE SECOND FORM's CARD OF 'sparrowlaw05.ScoreBest'. -/
def scoreBestUptoCard : Claim7 := { stood := { row := scoreBestUptoRow, standIns := [], harness := (true, "b47b8a67730d8976234e6426c99cc39db9f50a2fb94098cf01686ddf5ce014e8"), looks := false }, kinds := [], alts := [], laidByText := true, laidKinds := [.data, .data, .funcs, .pinned], laidTests := true, laidLooks := .later }
def ScoreBestUptoCardSaid : Prop := Claim7.holds Tryz.pinned (.plain (OpenSpec.upto scoreBestSpec)) scoreBestUptoCard

/-- THE SECOND FORM's CARD OF 'sparrowlaw05.ScoreMoves'. -/
def scoreMovesUptoCard : Claim7 := { stood := { row := scoreMovesUptoRow, standIns := [], harness := (true, "b47b8a67730d8976234e6426c99cc39db9f50a2fb94098cf01686ddf5ce014e8"), looks := false }, kinds := [], alts := [], laidByText := true, laidKinds := [.data, .data, .funcs, .pinned], laidTests := true, laidLooks := .later }
def ScoreMovesUptoCardSaid : Prop := Claim7.holds Tryz.pinned (.plain (OpenSpec.upto scoreMovesSpec)) scoreMovesUptoCard

/-- THE SECOND FORM's CARD OF 'sparrowlaw05.ScoreKeeps'. -/
def scoreKeepsUptoCard : Claim7 := { stood := { row := scoreKeepsUptoRow, standIns := [], harness := (true, "b47b8a67730d8976234e6426c99cc39db9f50a2fb94098cf01686ddf5ce014e8"), looks := false }, kinds := [], alts := [], laidByText := true, laidKinds := [.data, .data, .funcs, .pinned], laidTests := true, laidLooks := .later }
def ScoreKeepsUptoCardSaid : Prop := Claim7.holds Tryz.pinned (.plain (OpenSpec.upto scoreKeepsSpec)) scoreKeepsUptoCard

/-- THE SECOND FORM's CARD OF 'sparrowlaw05.ScorePays'. -/
def scorePaysUptoCard : Claim7 := { stood := { row := scorePaysUptoRow, standIns := [], harness := (true, "b47b8a67730d8976234e6426c99cc39db9f50a2fb94098cf01686ddf5ce014e8"), looks := false }, kinds := [], alts := [], laidByText := true, laidKinds := [.data, .data, .funcs, .pinned], laidTests := true, laidLooks := .later }
def ScorePaysUptoCardSaid : Prop := Claim7.holds Tryz.pinned (.plain (OpenSpec.upto scorePaysSpec)) scorePaysUptoCard

/-- THE SECOND FORM's CARD OF 'sparrowlaw05.ScoreSettles'. -/
def scoreSettlesUptoCard : Claim7 := { stood := { row := scoreSettlesUptoRow, standIns := [], harness := (true, "b47b8a67730d8976234e6426c99cc39db9f50a2fb94098cf01686ddf5ce014e8"), looks := false }, kinds := [], alts := [], laidByText := true, laidKinds := [.data, .data, .funcs, .pinned], laidTests := true, laidLooks := .later }
def ScoreSettlesUptoCardSaid : Prop := Claim7.holds Tryz.pinned (.plain (OpenSpec.upto scoreSettlesSpec)) scoreSettlesUptoCard

/-- THE SECOND FORM's CARD OF 'sparrowlaw05.ScoreSums'. -/
def scoreSumsUptoCard : Claim7 := { stood := { row := scoreSumsUptoRow, standIns := [], harness := (true, "b47b8a67730d8976234e6426c99cc39db9f50a2fb94098cf01686ddf5ce014e8"), looks := false }, kinds := [], alts := [], laidByText := true, laidKinds := [.data, .data, .funcs, .pinned], laidTests := true, laidLooks := .later }
def ScoreSumsUptoCardSaid : Prop := Claim7.holds Tryz.pinned (.plain (OpenSpec.upto scoreSumsSpec)) scoreSumsUptoCard

/-- THE SECOND FORM's CARD OF 'sparrowlaw05.ScoreFeeds'. -/
def scoreFeedsUptoCard : Claim7 := { stood := { row := scoreFeedsUptoRow, standIns := [], harness := (true, "b47b8a67730d8976234e6426c99cc39db9f50a2fb94098cf01686ddf5ce014e8"), looks := false }, kinds := [], alts := [], laidByText := true, laidKinds := [.data, .data, .funcs, .pinned], laidTests := true, laidLooks := .later }
def ScoreFeedsUptoCardSaid : Prop := Claim7.holds Tryz.pinned (.plain (OpenSpec.upto scoreFeedsSpec)) scoreFeedsUptoCard
end Rows
end Go.Proofs.YtfgeogepihjdiaaGreatDoor
