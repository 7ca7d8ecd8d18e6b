/-
  DERIVED. GIVEN WITH THE SEED: THE CARDS: each row of YtfgeogepihjdiaaDoorRows.lean that lists a variable, with what it lists TIED to the program's text (the seventh form; the later family's looks); each row that meets fmt, with fmt's text TOLD by the authors' own Lean function (tested against real Go, not proved from fmt's source: count such statements apart). THE CARD IS WHAT COUNTS. Prove the row's statement (the work); the ties are given (YtfgeogepihjdiaaDoorTie.lean); close each card by the builder's one call (the guide's Derived/Test/ToyasCard.lean, 'card_holds'). Laid BY PROGRAM, IN A SANDBOX (cutbox-door.mjs). By AI agents, Wed Nov 11 2026. No macro, syntax, notation, axiom, sorry.
-/
import Derived.Test.YtfgeogepihjdiaaDoorRows
import GoSem.ClaimSeven
namespace Go.Proofs.YtfgeogepihjdiaaDoor
namespace Rows

/-- THE TIED CARD OF 'sparrowlaw05.ScorePoints'. -/
def scorePointsCard : Claim7 := { stood := { row := scorePointsRow, standIns := [], harness := (true, "780c54c99a044b83971ea459d5f09ccdacf8e1a57c4dd6db4e592470d7cd8dd5"), looks := false }, kinds := [], alts := [], laidByText := true, laidKinds := [.data, .data, .funcs, .pinned], laidTests := true, laidLooks := .later }
def ScorePointsCardSaid : Prop := Claim7.holds Tryd.pinned (.plain (OpenSpec.ofChange scorePointsSpec)) scorePointsCard

/-- THE TIED CARD OF 'sparrowlaw05.ScoreScales'. -/
def scoreScalesCard : Claim7 := { stood := { row := scoreScalesRow, standIns := [], harness := (true, "780c54c99a044b83971ea459d5f09ccdacf8e1a57c4dd6db4e592470d7cd8dd5"), looks := false }, kinds := [], alts := [], laidByText := true, laidKinds := [.data, .data, .funcs, .pinned], laidTests := true, laidLooks := .later }
def ScoreScalesCardSaid : Prop := Claim7.holds Tryd.pinned (.plain (OpenSpec.ofChange scoreScalesSpec)) scoreScalesCard

/-- THE SECOND FORM's CARD OF 'sparrowlaw05.ScorePoints'. -/
def scorePointsUptoCard : Claim7 := { stood := { row := scorePointsUptoRow, standIns := [], harness := (true, "780c54c99a044b83971ea459d5f09ccdacf8e1a57c4dd6db4e592470d7cd8dd5"), looks := false }, kinds := [], alts := [], laidByText := true, laidKinds := [.data, .data, .funcs, .pinned], laidTests := true, laidLooks := .later }
def ScorePointsUptoCardSaid : Prop := Claim7.holds Tryd.pinned (.plain (OpenSpec.upto scorePointsSpec)) scorePointsUptoCard

/-- THE SECOND FORM's CARD OF 'sparrowlaw05.ScoreScales'. -/
def scoreScalesUptoCard : Claim7 := { stood := { row := scoreScalesUptoRow, standIns := [], harness := (true, "780c54c99a044b83971ea459d5f09ccdacf8e1a57c4dd6db4e592470d7cd8dd5"), looks := false }, kinds := [], alts := [], laidByText := true, laidKinds := [.data, .data, .funcs, .pinned], laidTests := true, laidLooks := .later }
def ScoreScalesUptoCardSaid : Prop := Claim7.holds Tryd.pinned (.plain (OpenSpec.upto scoreScalesSpec)) scoreScalesUptoCard
end Rows
end Go.Proofs.YtfgeogepihjdiaaDoor
