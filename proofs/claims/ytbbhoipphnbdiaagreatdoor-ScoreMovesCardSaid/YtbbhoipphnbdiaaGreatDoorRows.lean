/-
  NARROWER THAN 'FOR EVERY INPUT', by the rows' own cells (each row's printed sentence says how): ScoreBest: laid · ScoreMoves: laid · ScoreKeeps: laid · ScoreSums: laid.
  DERIVED. THE GIVEN ROWS OF THIS SEAT. 4 by the template 'for every input the law returns true; each argument reads behind the call as it read before'; 0 by the template 'total and deterministic' (their statements: YtbbhoipphnbdiaaGreatDoorTotals.lean).
  GIVEN WITH THE SEED: the statements are not yours to turn. If you find one false, say at which input.
  Laid BY PROGRAM, IN A SANDBOX (cutbox-rows.mjs): the forced cells as the released guide's own fill.sh prints them over the translation 18680b4ed075d7f9… (all of the seat's roots in one cut). By AI agents, Wed Nov 11 2026. No macro, syntax, notation, axiom, sorry.
-/
import Derived.Test.YtbbhoipphnbdiaaGreatDoorChecked
import GoSem.PinnedTables
import GoSem.Claim
import GoSem.ClaimJoined
import GoSem.ClaimMapViews
import Derived.JoinedTies
import Derived.KernelRfl
namespace Go.Proofs.YtbbhoipphnbdiaaGreatDoor
/- THE CELL 'sum', in the pinned program and in every row, IS THE sha256 OF THE DUMP (.gsa) THAT YtbbhoipphnbdiaaGreatDoorProg.lean LOADS. Nothing in Lean hashes anything: it is a label: what it is worth is what the hold of that sum in a sandbox is worth. -/
noncomputable def Tryz.pinned : Pinned := { name := "ytbbhoipphnbdiaagreatdoor", sum := "18680b4ed075d7f9c89506f4fd06e57e42b2cd57bfa3f2ee4016407bd4e885f9", checked := Tryz.checked }
namespace Rows
def none {H : Type} : Left H := { results := [], args := [] }

/- WHAT THE LISTED PACKAGE-LEVEL VARIABLES READ AS WHEN THE CALL BEGINS. Each datum BY PROGRAM (the guide's laid-datum.mjs) off the statement by which the dump's own 'gosem.cut.vars' lays the variable. In a bare row this is a premise. The card (YtbbhoipphnbdiaaGreatDoorCards.lean) ties it to the program's text. -/
def laid_math_bits_deBruijn64tab {H : Type} : DataW H := .agg [.lit (.int .u8 0), .lit (.int .u8 1), .lit (.int .u8 56), .lit (.int .u8 2), .lit (.int .u8 57), .lit (.int .u8 49), .lit (.int .u8 28), .lit (.int .u8 3), .lit (.int .u8 61), .lit (.int .u8 58), .lit (.int .u8 42), .lit (.int .u8 50), .lit (.int .u8 38), .lit (.int .u8 29), .lit (.int .u8 17), .lit (.int .u8 4), .lit (.int .u8 62), .lit (.int .u8 47), .lit (.int .u8 59), .lit (.int .u8 36), .lit (.int .u8 45), .lit (.int .u8 43), .lit (.int .u8 51), .lit (.int .u8 22), .lit (.int .u8 53), .lit (.int .u8 39), .lit (.int .u8 33), .lit (.int .u8 30), .lit (.int .u8 24), .lit (.int .u8 18), .lit (.int .u8 12), .lit (.int .u8 5), .lit (.int .u8 63), .lit (.int .u8 55), .lit (.int .u8 48), .lit (.int .u8 27), .lit (.int .u8 60), .lit (.int .u8 41), .lit (.int .u8 37), .lit (.int .u8 16), .lit (.int .u8 46), .lit (.int .u8 35), .lit (.int .u8 44), .lit (.int .u8 21), .lit (.int .u8 52), .lit (.int .u8 32), .lit (.int .u8 23), .lit (.int .u8 11), .lit (.int .u8 54), .lit (.int .u8 26), .lit (.int .u8 40), .lit (.int .u8 15), .lit (.int .u8 34), .lit (.int .u8 20), .lit (.int .u8 31), .lit (.int .u8 10), .lit (.int .u8 25), .lit (.int .u8 14), .lit (.int .u8 19), .lit (.int .u8 9), .lit (.int .u8 13), .lit (.int .u8 8), .lit (.int .u8 7), .lit (.int .u8 6)]
def laid_unicode_utf8_acceptRanges {H : Type} : DataW H := .agg [.agg [.lit (.int .u8 128), .lit (.int .u8 191)], .agg [.lit (.int .u8 160), .lit (.int .u8 191)], .agg [.lit (.int .u8 128), .lit (.int .u8 159)], .agg [.lit (.int .u8 144), .lit (.int .u8 191)], .agg [.lit (.int .u8 128), .lit (.int .u8 143)], .agg [.lit (.int .u8 0), .lit (.int .u8 0)], .agg [.lit (.int .u8 0), .lit (.int .u8 0)], .agg [.lit (.int .u8 0), .lit (.int .u8 0)], .agg [.lit (.int .u8 0), .lit (.int .u8 0)], .agg [.lit (.int .u8 0), .lit (.int .u8 0)], .agg [.lit (.int .u8 0), .lit (.int .u8 0)], .agg [.lit (.int .u8 0), .lit (.int .u8 0)], .agg [.lit (.int .u8 0), .lit (.int .u8 0)], .agg [.lit (.int .u8 0), .lit (.int .u8 0)], .agg [.lit (.int .u8 0), .lit (.int .u8 0)], .agg [.lit (.int .u8 0), .lit (.int .u8 0)]]
def laid_sparrow_score_modes {H : Type} : DataW H := .iface "func table" (.map [(.int .i64 1, .iface "func" (.lit (.string [40, 115, 112, 97, 114, 114, 111, 119, 47, 115, 99, 111, 114, 101, 46, 112, 97, 121, 109, 101, 110, 116, 41, 46, 97, 108, 111, 110, 101]))), (.int .i64 2, .iface "func" (.lit (.string [40, 115, 112, 97, 114, 114, 111, 119, 47, 115, 99, 111, 114, 101, 46, 112, 97, 121, 109, 101, 110, 116, 41, 46, 97, 108, 108]))), (.int .i64 3, .iface "func" (.lit (.string [40, 115, 112, 97, 114, 114, 111, 119, 47, 115, 99, 111, 114, 101, 46, 112, 97, 121, 109, 101, 110, 116, 41, 46, 98, 97, 115, 105, 99])))])
/-- One of Go's own tables, pinned by name: the form's constant. -/
def laid_unicode_utf8_first : DataW Unit := Go.Pinned.utf8First

/-- 'sparrowlaw05.ScoreBest': WHATEVER THE INPUT: true; the input reads as it did. -/
def scoreBestSpec : ChangeSpec := { name := "scoreBest", fn := fun _ => fun
  | [d1, d2] => { results := [.lit (.bool true)], args := [d1, d2] }
  | _ => none }
def scoreBestRow : OpenClaim := { program := "ytbbhoipphnbdiaagreatdoor", sum := "18680b4ed075d7f9c89506f4fd06e57e42b2cd57bfa3f2ee4016407bd4e885f9", func := "sparrow/sparrowlaw05.ScoreBest", spec := "scoreBest", inPlace := ["internal/bytealg.IndexByteString", "internal/bytealg.IndexString"], unfollowed := true, recurses := true, named := ["unicode/utf8.first", "unicode/utf8.acceptRanges", "math/bits.deBruijn64tab", "sparrow/score.modes", "internal/bytealg.MaxLen"], apart := false, laid := [("math/bits.deBruijn64tab", laid_math_bits_deBruijn64tab), ("unicode/utf8.acceptRanges", laid_unicode_utf8_acceptRanges), ("sparrow/score.modes", laid_sparrow_score_modes), ("unicode/utf8.first", laid_unicode_utf8_first)] }
def ScoreBestSaid : Prop := scoreBestRow.holds Tryz.pinned (OpenSpec.ofChange scoreBestSpec)

/-- ITS FALSE NEIGHBOUR: 'it returns false'. Refute it at one input. -/
def scoreBestWrong : ChangeSpec := { name := "scoreBest", fn := fun _ => fun
  | [d1, d2] => { results := [.lit (.bool false)], args := [d1, d2] }
  | _ => none }
def ScoreBestWrongFalsely : Prop := scoreBestRow.holds Tryz.pinned (OpenSpec.ofChange scoreBestWrong)

/-- 'sparrowlaw05.ScoreMoves': WHATEVER THE INPUT: true; the input reads as it did. -/
def scoreMovesSpec : ChangeSpec := { name := "scoreMoves", fn := fun _ => fun
  | [d1, d2] => { results := [.lit (.bool true)], args := [d1, d2] }
  | _ => none }
def scoreMovesRow : OpenClaim := { program := "ytbbhoipphnbdiaagreatdoor", sum := "18680b4ed075d7f9c89506f4fd06e57e42b2cd57bfa3f2ee4016407bd4e885f9", func := "sparrow/sparrowlaw05.ScoreMoves", spec := "scoreMoves", inPlace := ["internal/bytealg.IndexByteString", "internal/bytealg.IndexString"], unfollowed := true, recurses := true, named := ["unicode/utf8.first", "unicode/utf8.acceptRanges", "math/bits.deBruijn64tab", "sparrow/score.modes", "internal/bytealg.MaxLen"], apart := false, laid := [("math/bits.deBruijn64tab", laid_math_bits_deBruijn64tab), ("unicode/utf8.acceptRanges", laid_unicode_utf8_acceptRanges), ("sparrow/score.modes", laid_sparrow_score_modes), ("unicode/utf8.first", laid_unicode_utf8_first)] }
def ScoreMovesSaid : Prop := scoreMovesRow.holds Tryz.pinned (OpenSpec.ofChange scoreMovesSpec)

/-- ITS FALSE NEIGHBOUR: 'it returns false'. Refute it at one input. -/
def scoreMovesWrong : ChangeSpec := { name := "scoreMoves", fn := fun _ => fun
  | [d1, d2] => { results := [.lit (.bool false)], args := [d1, d2] }
  | _ => none }
def ScoreMovesWrongFalsely : Prop := scoreMovesRow.holds Tryz.pinned (OpenSpec.ofChange scoreMovesWrong)

/-- 'sparrowlaw05.ScoreKeeps': WHATEVER THE INPUT: true; the input reads as it did. -/
def scoreKeepsSpec : ChangeSpec := { name := "scoreKeeps", fn := fun _ => fun
  | [d1, d2, d3, d4, d5, d6, d7] => { results := [.lit (.bool true)], args := [d1, d2, d3, d4, d5, d6, d7] }
  | _ => none }
def scoreKeepsRow : OpenClaim := { program := "ytbbhoipphnbdiaagreatdoor", sum := "18680b4ed075d7f9c89506f4fd06e57e42b2cd57bfa3f2ee4016407bd4e885f9", func := "sparrow/sparrowlaw05.ScoreKeeps", spec := "scoreKeeps", inPlace := ["internal/bytealg.IndexByteString", "internal/bytealg.IndexString"], unfollowed := true, recurses := true, named := ["unicode/utf8.first", "unicode/utf8.acceptRanges", "sparrow/score.modes", "math/bits.deBruijn64tab", "internal/bytealg.MaxLen"], apart := false, laid := [("math/bits.deBruijn64tab", laid_math_bits_deBruijn64tab), ("unicode/utf8.acceptRanges", laid_unicode_utf8_acceptRanges), ("sparrow/score.modes", laid_sparrow_score_modes), ("unicode/utf8.first", laid_unicode_utf8_first)] }
def ScoreKeepsSaid : Prop := scoreKeepsRow.holds Tryz.pinned (OpenSpec.ofChange scoreKeepsSpec)

/-- ITS FALSE NEIGHBOUR: 'it returns false'. Refute it at one input. -/
def scoreKeepsWrong : ChangeSpec := { name := "scoreKeeps", fn := fun _ => fun
  | [d1, d2, d3, d4, d5, d6, d7] => { results := [.lit (.bool false)], args := [d1, d2, d3, d4, d5, d6, d7] }
  | _ => none }
def ScoreKeepsWrongFalsely : Prop := scoreKeepsRow.holds Tryz.pinned (OpenSpec.ofChange scoreKeepsWrong)

/-- 'sparrowlaw05.ScoreSums': WHATEVER THE INPUT: true; the input reads as it did. -/
def scoreSumsSpec : ChangeSpec := { name := "scoreSums", fn := fun _ => fun
  | [d1, d2, d3, d4] => { results := [.lit (.bool true)], args := [d1, d2, d3, d4] }
  | _ => none }
def scoreSumsRow : OpenClaim := { program := "ytbbhoipphnbdiaagreatdoor", sum := "18680b4ed075d7f9c89506f4fd06e57e42b2cd57bfa3f2ee4016407bd4e885f9", func := "sparrow/sparrowlaw05.ScoreSums", spec := "scoreSums", inPlace := ["internal/bytealg.IndexByteString", "internal/bytealg.IndexString"], unfollowed := true, recurses := true, named := ["unicode/utf8.first", "unicode/utf8.acceptRanges", "sparrow/score.modes", "math/bits.deBruijn64tab", "internal/bytealg.MaxLen"], apart := false, laid := [("math/bits.deBruijn64tab", laid_math_bits_deBruijn64tab), ("unicode/utf8.acceptRanges", laid_unicode_utf8_acceptRanges), ("sparrow/score.modes", laid_sparrow_score_modes), ("unicode/utf8.first", laid_unicode_utf8_first)] }
def ScoreSumsSaid : Prop := scoreSumsRow.holds Tryz.pinned (OpenSpec.ofChange scoreSumsSpec)

/-- ITS FALSE NEIGHBOUR: 'it returns false'. Refute it at one input. -/
def scoreSumsWrong : ChangeSpec := { name := "scoreSums", fn := fun _ => fun
  | [d1, d2, d3, d4] => { results := [.lit (.bool false)], args := [d1, d2, d3, d4] }
  | _ => none }
def ScoreSumsWrongFalsely : Prop := scoreSumsRow.holds Tryz.pinned (OpenSpec.ofChange scoreSumsWrong)

/- THE SECOND FORM. 'bulk': how many values and letters a reading holds, each counted each time it is reached (what is shared counts as often as it is met; a slice's spare places count too). A statement '..UptoSaid' is the law's where the arguments, and the package variables that the reading takes, are together of bulk at most 1048576: NARROWER than '..Said'. Prove '..Said' where nothing that the law and all that it calls make is longer than what came in: it says more and counts as full. Else prove '..UptoSaid'. A law counts once. -/
mutual
def uptoBulk {H : Type} : DataW H → Nat
  | .lit (.string bytes) => bytes.length + 1
  | .lit _ => 1
  | .nil => 1
  | .ptr d => uptoBulk d + 1
  | .slice elems spare => uptoBulkAll elems + uptoBulkAll spare + 1
  | .agg parts => uptoBulkAll parts + 1
  | .iface _ d => uptoBulk d + 1
  | .map entries => uptoBulkEntries entries + 1
  | .held _ => 1
def uptoBulkAll {H : Type} : List (DataW H) → Nat
  | [] => 0
  | d :: r => uptoBulk d + uptoBulkAll r
def uptoBulkEntries {H : Type} : List (Lit × DataW H) → Nat
  | [] => 0
  | x :: r => uptoBulkEntry x + uptoBulkEntries r
def uptoBulkEntry {H : Type} : Lit × DataW H → Nat
  | (.string bytes, d) => bytes.length + uptoBulk d + 1
  | (_, d) => uptoBulk d + 1
 end
def uptoSmall : (H : Type) → List (DataW H) → Bool := fun _ ds => decide (uptoBulkAll ds ≤ 1048576)
def OpenSpec.upto (s : _root_.Go.ChangeSpec) : _root_.Go.OpenSpec := { _root_.Go.OpenSpec.ofChange s with cond := some uptoSmall }

/-- 'sparrowlaw05.ScoreBest', WHERE WHAT IT READS IS OF BULK AT MOST 1048576: true; the input reads as it did. -/
def scoreBestUptoRow : OpenClaim := { program := "ytbbhoipphnbdiaagreatdoor", sum := "18680b4ed075d7f9c89506f4fd06e57e42b2cd57bfa3f2ee4016407bd4e885f9", func := "sparrow/sparrowlaw05.ScoreBest", spec := "scoreBest", inPlace := ["internal/bytealg.IndexByteString", "internal/bytealg.IndexString"], unfollowed := true, recurses := true, named := ["unicode/utf8.first", "unicode/utf8.acceptRanges", "math/bits.deBruijn64tab", "sparrow/score.modes", "internal/bytealg.MaxLen"], apart := false, laid := [("math/bits.deBruijn64tab", laid_math_bits_deBruijn64tab), ("unicode/utf8.acceptRanges", laid_unicode_utf8_acceptRanges), ("sparrow/score.modes", laid_sparrow_score_modes), ("unicode/utf8.first", laid_unicode_utf8_first)], narrowed := true }
def ScoreBestUptoSaid : Prop := scoreBestUptoRow.holds Tryz.pinned (OpenSpec.upto scoreBestSpec)

/-- 'sparrowlaw05.ScoreMoves', WHERE WHAT IT READS IS OF BULK AT MOST 1048576: true; the input reads as it did. -/
def scoreMovesUptoRow : OpenClaim := { program := "ytbbhoipphnbdiaagreatdoor", sum := "18680b4ed075d7f9c89506f4fd06e57e42b2cd57bfa3f2ee4016407bd4e885f9", func := "sparrow/sparrowlaw05.ScoreMoves", spec := "scoreMoves", inPlace := ["internal/bytealg.IndexByteString", "internal/bytealg.IndexString"], unfollowed := true, recurses := true, named := ["unicode/utf8.first", "unicode/utf8.acceptRanges", "math/bits.deBruijn64tab", "sparrow/score.modes", "internal/bytealg.MaxLen"], apart := false, laid := [("math/bits.deBruijn64tab", laid_math_bits_deBruijn64tab), ("unicode/utf8.acceptRanges", laid_unicode_utf8_acceptRanges), ("sparrow/score.modes", laid_sparrow_score_modes), ("unicode/utf8.first", laid_unicode_utf8_first)], narrowed := true }
def ScoreMovesUptoSaid : Prop := scoreMovesUptoRow.holds Tryz.pinned (OpenSpec.upto scoreMovesSpec)

/-- 'sparrowlaw05.ScoreKeeps', WHERE WHAT IT READS IS OF BULK AT MOST 1048576: true; the input reads as it did. -/
def scoreKeepsUptoRow : OpenClaim := { program := "ytbbhoipphnbdiaagreatdoor", sum := "18680b4ed075d7f9c89506f4fd06e57e42b2cd57bfa3f2ee4016407bd4e885f9", func := "sparrow/sparrowlaw05.ScoreKeeps", spec := "scoreKeeps", inPlace := ["internal/bytealg.IndexByteString", "internal/bytealg.IndexString"], unfollowed := true, recurses := true, named := ["unicode/utf8.first", "unicode/utf8.acceptRanges", "sparrow/score.modes", "math/bits.deBruijn64tab", "internal/bytealg.MaxLen"], apart := false, laid := [("math/bits.deBruijn64tab", laid_math_bits_deBruijn64tab), ("unicode/utf8.acceptRanges", laid_unicode_utf8_acceptRanges), ("sparrow/score.modes", laid_sparrow_score_modes), ("unicode/utf8.first", laid_unicode_utf8_first)], narrowed := true }
def ScoreKeepsUptoSaid : Prop := scoreKeepsUptoRow.holds Tryz.pinned (OpenSpec.upto scoreKeepsSpec)

/-- 'sparrowlaw05.ScoreSums', WHERE WHAT IT READS IS OF BULK AT MOST 1048576: true; the input reads as it did. -/
def scoreSumsUptoRow : OpenClaim := { program := "ytbbhoipphnbdiaagreatdoor", sum := "18680b4ed075d7f9c89506f4fd06e57e42b2cd57bfa3f2ee4016407bd4e885f9", func := "sparrow/sparrowlaw05.ScoreSums", spec := "scoreSums", inPlace := ["internal/bytealg.IndexByteString", "internal/bytealg.IndexString"], unfollowed := true, recurses := true, named := ["unicode/utf8.first", "unicode/utf8.acceptRanges", "sparrow/score.modes", "math/bits.deBruijn64tab", "internal/bytealg.MaxLen"], apart := false, laid := [("math/bits.deBruijn64tab", laid_math_bits_deBruijn64tab), ("unicode/utf8.acceptRanges", laid_unicode_utf8_acceptRanges), ("sparrow/score.modes", laid_sparrow_score_modes), ("unicode/utf8.first", laid_unicode_utf8_first)], narrowed := true }
def ScoreSumsUptoSaid : Prop := scoreSumsUptoRow.holds Tryz.pinned (OpenSpec.upto scoreSumsSpec)

end Rows
end Go.Proofs.YtbbhoipphnbdiaaGreatDoor
