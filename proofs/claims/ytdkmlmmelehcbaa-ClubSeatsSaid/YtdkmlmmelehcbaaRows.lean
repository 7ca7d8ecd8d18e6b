/-
  No cell of these rows narrows 'for every input' (looked for: loops, veiled, ifaces, maps, wideKeys, modest, calm, conditions, laid).
  DERIVED. THE GIVEN ROWS OF THIS SEAT. 9 by the template 'for every input the law returns true; each argument reads behind the call as it read before'; 0 by the template 'total and deterministic' (their statements: YtdkmlmmelehcbaaTotals.lean).
  GIVEN WITH THE SEED: the statements are not yours to turn. If you find one false, say at which input.
  Laid BY PROGRAM, IN A SANDBOX (cutbox-rows.mjs): the forced cells as the released guide's own fill.sh prints them over the translation 11bae0918c2f5b5e… (all of the seat's roots in one cut). By AI agents, Wed Nov 11 2026. No macro, syntax, notation, axiom, sorry.
-/
import Derived.Test.YtdkmlmmelehcbaaChecked
import GoSem.Claim
import GoSem.ClaimJoined
import GoSem.ClaimMapViews
import Derived.JoinedTies
import Derived.KernelRfl
namespace Go.Proofs.Ytdkmlmmelehcbaa
/- THE CELL 'sum', in the pinned program and in every row, IS THE sha256 OF THE DUMP (.gsa) THAT YtdkmlmmelehcbaaProg.lean LOADS. Nothing in Lean hashes anything: it is a label: what it is worth is what the hold of that sum in a sandbox is worth. -/
noncomputable def Try.pinned : Pinned := { name := "ytdkmlmmelehcbaa", sum := "11bae0918c2f5b5ea95ad088e2c7497fb53953812607bc23af1d9f17233cd570", checked := Try.checked }
namespace Rows
def none {H : Type} : Left H := { results := [], args := [] }

/-- 'sparrowlaw10.ClubNext': WHATEVER THE INPUT: true; the input reads as it did. -/
def clubNextSpec : ChangeSpec := { name := "clubNext", fn := fun _ => fun
  | [d1, d2, d3] => { results := [.lit (.bool true)], args := [d1, d2, d3] }
  | _ => none }
def clubNextRow : OpenClaim := { program := "ytdkmlmmelehcbaa", sum := "11bae0918c2f5b5ea95ad088e2c7497fb53953812607bc23af1d9f17233cd570", func := "sparrow/sparrowlaw10.ClubNext", spec := "clubNext", unfollowed := true, recurses := true, plainKeys := false, apart := false }
def ClubNextSaid : Prop := clubNextRow.holds Try.pinned (OpenSpec.ofChange clubNextSpec)

/-- ITS FALSE NEIGHBOUR: 'it returns false'. Refute it at one input. -/
def clubNextWrong : ChangeSpec := { name := "clubNext", fn := fun _ => fun
  | [d1, d2, d3] => { results := [.lit (.bool false)], args := [d1, d2, d3] }
  | _ => none }
def ClubNextWrongFalsely : Prop := clubNextRow.holds Try.pinned (OpenSpec.ofChange clubNextWrong)

/-- 'sparrowlaw10.ClubLeast': WHATEVER THE INPUT: true; the input reads as it did. -/
def clubLeastSpec : ChangeSpec := { name := "clubLeast", fn := fun _ => fun
  | [d] => { results := [.lit (.bool true)], args := [d] }
  | _ => none }
def clubLeastRow : OpenClaim := { program := "ytdkmlmmelehcbaa", sum := "11bae0918c2f5b5ea95ad088e2c7497fb53953812607bc23af1d9f17233cd570", func := "sparrow/sparrowlaw10.ClubLeast", spec := "clubLeast", unfollowed := true, recurses := true, plainKeys := false, apart := false }
def ClubLeastSaid : Prop := clubLeastRow.holds Try.pinned (OpenSpec.ofChange clubLeastSpec)

/-- ITS FALSE NEIGHBOUR: 'it returns false'. Refute it at one input. -/
def clubLeastWrong : ChangeSpec := { name := "clubLeast", fn := fun _ => fun
  | [d] => { results := [.lit (.bool false)], args := [d] }
  | _ => none }
def ClubLeastWrongFalsely : Prop := clubLeastRow.holds Try.pinned (OpenSpec.ofChange clubLeastWrong)

/-- 'sparrowlaw10.ClubZero': WHATEVER THE INPUT: true; the input reads as it did. -/
def clubZeroSpec : ChangeSpec := { name := "clubZero", fn := fun _ => fun
  | [d1, d2] => { results := [.lit (.bool true)], args := [d1, d2] }
  | _ => none }
def clubZeroRow : OpenClaim := { program := "ytdkmlmmelehcbaa", sum := "11bae0918c2f5b5ea95ad088e2c7497fb53953812607bc23af1d9f17233cd570", func := "sparrow/sparrowlaw10.ClubZero", spec := "clubZero", unfollowed := true, recurses := true, plainKeys := false, apart := false }
def ClubZeroSaid : Prop := clubZeroRow.holds Try.pinned (OpenSpec.ofChange clubZeroSpec)

/-- ITS FALSE NEIGHBOUR: 'it returns false'. Refute it at one input. -/
def clubZeroWrong : ChangeSpec := { name := "clubZero", fn := fun _ => fun
  | [d1, d2] => { results := [.lit (.bool false)], args := [d1, d2] }
  | _ => none }
def ClubZeroWrongFalsely : Prop := clubZeroRow.holds Try.pinned (OpenSpec.ofChange clubZeroWrong)

/-- 'sparrowlaw10.ClubFresh': WHATEVER THE INPUT: true; the input reads as it did. -/
def clubFreshSpec : ChangeSpec := { name := "clubFresh", fn := fun _ => fun
  | [d] => { results := [.lit (.bool true)], args := [d] }
  | _ => none }
def clubFreshRow : OpenClaim := { program := "ytdkmlmmelehcbaa", sum := "11bae0918c2f5b5ea95ad088e2c7497fb53953812607bc23af1d9f17233cd570", func := "sparrow/sparrowlaw10.ClubFresh", spec := "clubFresh", unfollowed := true, recurses := true, plainKeys := false, apart := false }
def ClubFreshSaid : Prop := clubFreshRow.holds Try.pinned (OpenSpec.ofChange clubFreshSpec)

/-- ITS FALSE NEIGHBOUR: 'it returns false'. Refute it at one input. -/
def clubFreshWrong : ChangeSpec := { name := "clubFresh", fn := fun _ => fun
  | [d] => { results := [.lit (.bool false)], args := [d] }
  | _ => none }
def ClubFreshWrongFalsely : Prop := clubFreshRow.holds Try.pinned (OpenSpec.ofChange clubFreshWrong)

/-- 'sparrowlaw10.ClubPlans': WHATEVER THE INPUT: true; the input reads as it did. -/
def clubPlansSpec : ChangeSpec := { name := "clubPlans", fn := fun _ => fun
  | [d1, d2, d3, d4] => { results := [.lit (.bool true)], args := [d1, d2, d3, d4] }
  | _ => none }
def clubPlansRow : OpenClaim := { program := "ytdkmlmmelehcbaa", sum := "11bae0918c2f5b5ea95ad088e2c7497fb53953812607bc23af1d9f17233cd570", func := "sparrow/sparrowlaw10.ClubPlans", spec := "clubPlans", unfollowed := true, recurses := true, plainKeys := false, apart := false }
def ClubPlansSaid : Prop := clubPlansRow.holds Try.pinned (OpenSpec.ofChange clubPlansSpec)

/-- ITS FALSE NEIGHBOUR: 'it returns false'. Refute it at one input. -/
def clubPlansWrong : ChangeSpec := { name := "clubPlans", fn := fun _ => fun
  | [d1, d2, d3, d4] => { results := [.lit (.bool false)], args := [d1, d2, d3, d4] }
  | _ => none }
def ClubPlansWrongFalsely : Prop := clubPlansRow.holds Try.pinned (OpenSpec.ofChange clubPlansWrong)

/-- 'sparrowlaw10.ClubBudget': WHATEVER THE INPUT: true; the input reads as it did. -/
def clubBudgetSpec : ChangeSpec := { name := "clubBudget", fn := fun _ => fun
  | [d1, d2, d3] => { results := [.lit (.bool true)], args := [d1, d2, d3] }
  | _ => none }
def clubBudgetRow : OpenClaim := { program := "ytdkmlmmelehcbaa", sum := "11bae0918c2f5b5ea95ad088e2c7497fb53953812607bc23af1d9f17233cd570", func := "sparrow/sparrowlaw10.ClubBudget", spec := "clubBudget", unfollowed := true, recurses := true, plainKeys := false, apart := false }
def ClubBudgetSaid : Prop := clubBudgetRow.holds Try.pinned (OpenSpec.ofChange clubBudgetSpec)

/-- ITS FALSE NEIGHBOUR: 'it returns false'. Refute it at one input. -/
def clubBudgetWrong : ChangeSpec := { name := "clubBudget", fn := fun _ => fun
  | [d1, d2, d3] => { results := [.lit (.bool false)], args := [d1, d2, d3] }
  | _ => none }
def ClubBudgetWrongFalsely : Prop := clubBudgetRow.holds Try.pinned (OpenSpec.ofChange clubBudgetWrong)

/-- 'sparrowlaw10.ClubSeats': WHATEVER THE INPUT: true; the input reads as it did. -/
def clubSeatsSpec : ChangeSpec := { name := "clubSeats", fn := fun _ => fun
  | [d1, d2, d3, d4, d5] => { results := [.lit (.bool true)], args := [d1, d2, d3, d4, d5] }
  | _ => none }
def clubSeatsRow : OpenClaim := { program := "ytdkmlmmelehcbaa", sum := "11bae0918c2f5b5ea95ad088e2c7497fb53953812607bc23af1d9f17233cd570", func := "sparrow/sparrowlaw10.ClubSeats", spec := "clubSeats", unfollowed := true, recurses := true, plainKeys := false, apart := false }
def ClubSeatsSaid : Prop := clubSeatsRow.holds Try.pinned (OpenSpec.ofChange clubSeatsSpec)

/-- ITS FALSE NEIGHBOUR: 'it returns false'. Refute it at one input. -/
def clubSeatsWrong : ChangeSpec := { name := "clubSeats", fn := fun _ => fun
  | [d1, d2, d3, d4, d5] => { results := [.lit (.bool false)], args := [d1, d2, d3, d4, d5] }
  | _ => none }
def ClubSeatsWrongFalsely : Prop := clubSeatsRow.holds Try.pinned (OpenSpec.ofChange clubSeatsWrong)

/-- 'sparrowlaw10.ClubAhead': WHATEVER THE INPUT: true; the input reads as it did. -/
def clubAheadSpec : ChangeSpec := { name := "clubAhead", fn := fun _ => fun
  | [d1, d2] => { results := [.lit (.bool true)], args := [d1, d2] }
  | _ => none }
def clubAheadRow : OpenClaim := { program := "ytdkmlmmelehcbaa", sum := "11bae0918c2f5b5ea95ad088e2c7497fb53953812607bc23af1d9f17233cd570", func := "sparrow/sparrowlaw10.ClubAhead", spec := "clubAhead", unfollowed := true, recurses := true, plainKeys := false, apart := false }
def ClubAheadSaid : Prop := clubAheadRow.holds Try.pinned (OpenSpec.ofChange clubAheadSpec)

/-- ITS FALSE NEIGHBOUR: 'it returns false'. Refute it at one input. -/
def clubAheadWrong : ChangeSpec := { name := "clubAhead", fn := fun _ => fun
  | [d1, d2] => { results := [.lit (.bool false)], args := [d1, d2] }
  | _ => none }
def ClubAheadWrongFalsely : Prop := clubAheadRow.holds Try.pinned (OpenSpec.ofChange clubAheadWrong)

/-- 'sparrowlaw10.ClubKnown': WHATEVER THE INPUT: true; the input reads as it did. -/
def clubKnownSpec : ChangeSpec := { name := "clubKnown", fn := fun _ => fun
  | [] => { results := [.lit (.bool true)], args := [] }
  | _ => none }
def clubKnownRow : OpenClaim := { program := "ytdkmlmmelehcbaa", sum := "11bae0918c2f5b5ea95ad088e2c7497fb53953812607bc23af1d9f17233cd570", func := "sparrow/sparrowlaw10.ClubKnown", spec := "clubKnown", unfollowed := true, recurses := true, plainKeys := false, apart := false }
def ClubKnownSaid : Prop := clubKnownRow.holds Try.pinned (OpenSpec.ofChange clubKnownSpec)

/-- ITS FALSE NEIGHBOUR: 'it returns false'. Refute it at one input. -/
def clubKnownWrong : ChangeSpec := { name := "clubKnown", fn := fun _ => fun
  | [] => { results := [.lit (.bool false)], args := [] }
  | _ => none }
def ClubKnownWrongFalsely : Prop := clubKnownRow.holds Try.pinned (OpenSpec.ofChange clubKnownWrong)

/- THE SECOND FORM. 'bulk': how many values and letters a reading holds, each counted each time it is reached (what is shared counts as often as it is met; a slice's spare places count too). A statement '..UptoSaid' is the law's where the arguments, and the package variables that the reading takes, are together of bulk at most 1048576: NARROWER than '..Said'. Prove '..Said' where nothing that the law and all that it calls make is longer than what came in: it says more and counts as full. Else prove '..UptoSaid'. A law counts once. -/
mutual
def uptoBulk {H : Type} : DataW H → Nat
  | .lit (.string bytes) => bytes.length + 1
  | .lit _ => 1
  | .nil => 1
  | .ptr d => uptoBulk d + 1
  | .slice elems spare => uptoBulkAll elems + uptoBulkAll spare + 1
  | .agg parts => uptoBulkAll parts + 1
  | .iface _ d => uptoBulk d + 1
  | .map entries => uptoBulkEntries entries + 1
  | .held _ => 1
def uptoBulkAll {H : Type} : List (DataW H) → Nat
  | [] => 0
  | d :: r => uptoBulk d + uptoBulkAll r
def uptoBulkEntries {H : Type} : List (Lit × DataW H) → Nat
  | [] => 0
  | x :: r => uptoBulkEntry x + uptoBulkEntries r
def uptoBulkEntry {H : Type} : Lit × DataW H → Nat
  | (.string bytes, d) => bytes.length + uptoBulk d + 1
  | (_, d) => uptoBulk d + 1
 end
def uptoSmall : (H : Type) → List (DataW H) → Bool := fun _ ds => decide (uptoBulkAll ds ≤ 1048576)
def OpenSpec.upto (s : _root_.Go.ChangeSpec) : _root_.Go.OpenSpec := { _root_.Go.OpenSpec.ofChange s with cond := some uptoSmall }

/-- 'sparrowlaw10.ClubNext', WHERE WHAT IT READS IS OF BULK AT MOST 1048576: true; the input reads as it did. -/
def clubNextUptoRow : OpenClaim := { program := "ytdkmlmmelehcbaa", sum := "11bae0918c2f5b5ea95ad088e2c7497fb53953812607bc23af1d9f17233cd570", func := "sparrow/sparrowlaw10.ClubNext", spec := "clubNext", unfollowed := true, recurses := true, plainKeys := false, apart := false, narrowed := true }
def ClubNextUptoSaid : Prop := clubNextUptoRow.holds Try.pinned (OpenSpec.upto clubNextSpec)

/-- 'sparrowlaw10.ClubLeast', WHERE WHAT IT READS IS OF BULK AT MOST 1048576: true; the input reads as it did. -/
def clubLeastUptoRow : OpenClaim := { program := "ytdkmlmmelehcbaa", sum := "11bae0918c2f5b5ea95ad088e2c7497fb53953812607bc23af1d9f17233cd570", func := "sparrow/sparrowlaw10.ClubLeast", spec := "clubLeast", unfollowed := true, recurses := true, plainKeys := false, apart := false, narrowed := true }
def ClubLeastUptoSaid : Prop := clubLeastUptoRow.holds Try.pinned (OpenSpec.upto clubLeastSpec)

/-- 'sparrowlaw10.ClubZero', WHERE WHAT IT READS IS OF BULK AT MOST 1048576: true; the input reads as it did. -/
def clubZeroUptoRow : OpenClaim := { program := "ytdkmlmmelehcbaa", sum := "11bae0918c2f5b5ea95ad088e2c7497fb53953812607bc23af1d9f17233cd570", func := "sparrow/sparrowlaw10.ClubZero", spec := "clubZero", unfollowed := true, recurses := true, plainKeys := false, apart := false, narrowed := true }
def ClubZeroUptoSaid : Prop := clubZeroUptoRow.holds Try.pinned (OpenSpec.upto clubZeroSpec)

/-- 'sparrowlaw10.ClubFresh', WHERE WHAT IT READS IS OF BULK AT MOST 1048576: true; the input reads as it did. -/
def clubFreshUptoRow : OpenClaim := { program := "ytdkmlmmelehcbaa", sum := "11bae0918c2f5b5ea95ad088e2c7497fb53953812607bc23af1d9f17233cd570", func := "sparrow/sparrowlaw10.ClubFresh", spec := "clubFresh", unfollowed := true, recurses := true, plainKeys := false, apart := false, narrowed := true }
def ClubFreshUptoSaid : Prop := clubFreshUptoRow.holds Try.pinned (OpenSpec.upto clubFreshSpec)

/-- 'sparrowlaw10.ClubPlans', WHERE WHAT IT READS IS OF BULK AT MOST 1048576: true; the input reads as it did. -/
def clubPlansUptoRow : OpenClaim := { program := "ytdkmlmmelehcbaa", sum := "11bae0918c2f5b5ea95ad088e2c7497fb53953812607bc23af1d9f17233cd570", func := "sparrow/sparrowlaw10.ClubPlans", spec := "clubPlans", unfollowed := true, recurses := true, plainKeys := false, apart := false, narrowed := true }
def ClubPlansUptoSaid : Prop := clubPlansUptoRow.holds Try.pinned (OpenSpec.upto clubPlansSpec)

/-- 'sparrowlaw10.ClubBudget', WHERE WHAT IT READS IS OF BULK AT MOST 1048576: true; the input reads as it did. -/
def clubBudgetUptoRow : OpenClaim := { program := "ytdkmlmmelehcbaa", sum := "11bae0918c2f5b5ea95ad088e2c7497fb53953812607bc23af1d9f17233cd570", func := "sparrow/sparrowlaw10.ClubBudget", spec := "clubBudget", unfollowed := true, recurses := true, plainKeys := false, apart := false, narrowed := true }
def ClubBudgetUptoSaid : Prop := clubBudgetUptoRow.holds Try.pinned (OpenSpec.upto clubBudgetSpec)

/-- 'sparrowlaw10.ClubSeats', WHERE WHAT IT READS IS OF BULK AT MOST 1048576: true; the input reads as it did. -/
def clubSeatsUptoRow : OpenClaim := { program := "ytdkmlmmelehcbaa", sum := "11bae0918c2f5b5ea95ad088e2c7497fb53953812607bc23af1d9f17233cd570", func := "sparrow/sparrowlaw10.ClubSeats", spec := "clubSeats", unfollowed := true, recurses := true, plainKeys := false, apart := false, narrowed := true }
def ClubSeatsUptoSaid : Prop := clubSeatsUptoRow.holds Try.pinned (OpenSpec.upto clubSeatsSpec)

/-- 'sparrowlaw10.ClubAhead', WHERE WHAT IT READS IS OF BULK AT MOST 1048576: true; the input reads as it did. -/
def clubAheadUptoRow : OpenClaim := { program := "ytdkmlmmelehcbaa", sum := "11bae0918c2f5b5ea95ad088e2c7497fb53953812607bc23af1d9f17233cd570", func := "sparrow/sparrowlaw10.ClubAhead", spec := "clubAhead", unfollowed := true, recurses := true, plainKeys := false, apart := false, narrowed := true }
def ClubAheadUptoSaid : Prop := clubAheadUptoRow.holds Try.pinned (OpenSpec.upto clubAheadSpec)

/-- 'sparrowlaw10.ClubKnown', WHERE WHAT IT READS IS OF BULK AT MOST 1048576: true; the input reads as it did. -/
def clubKnownUptoRow : OpenClaim := { program := "ytdkmlmmelehcbaa", sum := "11bae0918c2f5b5ea95ad088e2c7497fb53953812607bc23af1d9f17233cd570", func := "sparrow/sparrowlaw10.ClubKnown", spec := "clubKnown", unfollowed := true, recurses := true, plainKeys := false, apart := false, narrowed := true }
def ClubKnownUptoSaid : Prop := clubKnownUptoRow.holds Try.pinned (OpenSpec.upto clubKnownSpec)

end Rows
end Go.Proofs.Ytdkmlmmelehcbaa
