/-
  No cell of these rows narrows 'for every input' (looked for: loops, veiled, ifaces, maps, wideKeys, modest, calm, conditions, laid).
  DERIVED. THE GIVEN ROWS OF THIS SEAT. 12 by the template 'for every input the law returns true; each argument reads behind the call as it read before'; 0 by the template 'total and deterministic' (their statements: YtgebobdieekjaaaGreatTotals.lean).
  GIVEN WITH THE SEED: the statements are not yours to turn. If you find one false, say at which input.
  Laid BY PROGRAM, IN A SANDBOX (cutbox-rows.mjs): the forced cells as the released guide's own fill.sh prints them over the translation a870bab5d1f50df8… (all of the seat's roots in one cut). By AI agents, Wed Nov 11 2026. No macro, syntax, notation, axiom, sorry.
-/
import Derived.Test.YtgebobdieekjaaaGreatChecked
import GoSem.Claim
import GoSem.ClaimJoined
import GoSem.ClaimMapViews
import Derived.JoinedTies
import Derived.KernelRfl
namespace Go.Proofs.YtgebobdieekjaaaGreat
/- THE CELL 'sum', in the pinned program and in every row, IS THE sha256 OF THE DUMP (.gsa) THAT YtgebobdieekjaaaGreatProg.lean LOADS. Nothing in Lean hashes anything: it is a label: what it is worth is what the hold of that sum in a sandbox is worth. -/
noncomputable def Tryz.pinned : Pinned := { name := "ytgebobdieekjaaagreat", sum := "a870bab5d1f50df85df26560169193143f72b63ba9088e8963523fe8808da8e2", checked := Tryz.checked }
namespace Rows
def none {H : Type} : Left H := { results := [], args := [] }

/-- 'orrerylaw07.PgcdFactors': WHATEVER THE INPUT: true; the input reads as it did. -/
def pgcdFactorsSpec : ChangeSpec := { name := "pgcdFactors", fn := fun _ => fun
  | [d] => { results := [.lit (.bool true)], args := [d] }
  | _ => none }
def pgcdFactorsRow : OpenClaim := { program := "ytgebobdieekjaaagreat", sum := "a870bab5d1f50df85df26560169193143f72b63ba9088e8963523fe8808da8e2", func := "orrery/orrerylaw07.PgcdFactors", spec := "pgcdFactors", unfollowed := true, recurses := true, apart := false }
def PgcdFactorsSaid : Prop := pgcdFactorsRow.holds Tryz.pinned (OpenSpec.ofChange pgcdFactorsSpec)

/-- ITS FALSE NEIGHBOUR: 'it returns false'. Refute it at one input. -/
def pgcdFactorsWrong : ChangeSpec := { name := "pgcdFactors", fn := fun _ => fun
  | [d] => { results := [.lit (.bool false)], args := [d] }
  | _ => none }
def PgcdFactorsWrongFalsely : Prop := pgcdFactorsRow.holds Tryz.pinned (OpenSpec.ofChange pgcdFactorsWrong)

/-- 'orrerylaw07.PgcdGcds': WHATEVER THE INPUT: true; the input reads as it did. -/
def pgcdGcdsSpec : ChangeSpec := { name := "pgcdGcds", fn := fun _ => fun
  | [d1, d2, d3] => { results := [.lit (.bool true)], args := [d1, d2, d3] }
  | _ => none }
def pgcdGcdsRow : OpenClaim := { program := "ytgebobdieekjaaagreat", sum := "a870bab5d1f50df85df26560169193143f72b63ba9088e8963523fe8808da8e2", func := "orrery/orrerylaw07.PgcdGcds", spec := "pgcdGcds", unfollowed := true, recurses := true, apart := false }
def PgcdGcdsSaid : Prop := pgcdGcdsRow.holds Tryz.pinned (OpenSpec.ofChange pgcdGcdsSpec)

/-- ITS FALSE NEIGHBOUR: 'it returns false'. Refute it at one input. -/
def pgcdGcdsWrong : ChangeSpec := { name := "pgcdGcds", fn := fun _ => fun
  | [d1, d2, d3] => { results := [.lit (.bool false)], args := [d1, d2, d3] }
  | _ => none }
def PgcdGcdsWrongFalsely : Prop := pgcdGcdsRow.holds Tryz.pinned (OpenSpec.ofChange pgcdGcdsWrong)

/-- 'orrerylaw07.PgcdRaw': WHATEVER THE INPUT: true; the input reads as it did. -/
def pgcdRawSpec : ChangeSpec := { name := "pgcdRaw", fn := fun _ => fun
  | [d1, d2, d3] => { results := [.lit (.bool true)], args := [d1, d2, d3] }
  | _ => none }
def pgcdRawRow : OpenClaim := { program := "ytgebobdieekjaaagreat", sum := "a870bab5d1f50df85df26560169193143f72b63ba9088e8963523fe8808da8e2", func := "orrery/orrerylaw07.PgcdRaw", spec := "pgcdRaw", unfollowed := true, recurses := true, apart := false }
def PgcdRawSaid : Prop := pgcdRawRow.holds Tryz.pinned (OpenSpec.ofChange pgcdRawSpec)

/-- ITS FALSE NEIGHBOUR: 'it returns false'. Refute it at one input. -/
def pgcdRawWrong : ChangeSpec := { name := "pgcdRaw", fn := fun _ => fun
  | [d1, d2, d3] => { results := [.lit (.bool false)], args := [d1, d2, d3] }
  | _ => none }
def PgcdRawWrongFalsely : Prop := pgcdRawRow.holds Tryz.pinned (OpenSpec.ofChange pgcdRawWrong)

/-- 'orrerylaw07.PgcdShares': WHATEVER THE INPUT: true; the input reads as it did. -/
def pgcdSharesSpec : ChangeSpec := { name := "pgcdShares", fn := fun _ => fun
  | [d1, d2, d3, d4] => { results := [.lit (.bool true)], args := [d1, d2, d3, d4] }
  | _ => none }
def pgcdSharesRow : OpenClaim := { program := "ytgebobdieekjaaagreat", sum := "a870bab5d1f50df85df26560169193143f72b63ba9088e8963523fe8808da8e2", func := "orrery/orrerylaw07.PgcdShares", spec := "pgcdShares", unfollowed := true, recurses := true, apart := false }
def PgcdSharesSaid : Prop := pgcdSharesRow.holds Tryz.pinned (OpenSpec.ofChange pgcdSharesSpec)

/-- ITS FALSE NEIGHBOUR: 'it returns false'. Refute it at one input. -/
def pgcdSharesWrong : ChangeSpec := { name := "pgcdShares", fn := fun _ => fun
  | [d1, d2, d3, d4] => { results := [.lit (.bool false)], args := [d1, d2, d3, d4] }
  | _ => none }
def PgcdSharesWrongFalsely : Prop := pgcdSharesRow.holds Tryz.pinned (OpenSpec.ofChange pgcdSharesWrong)

/-- 'orrerylaw07.PgcdOdds': WHATEVER THE INPUT: true; the input reads as it did. -/
def pgcdOddsSpec : ChangeSpec := { name := "pgcdOdds", fn := fun _ => fun
  | [d1, d2] => { results := [.lit (.bool true)], args := [d1, d2] }
  | _ => none }
def pgcdOddsRow : OpenClaim := { program := "ytgebobdieekjaaagreat", sum := "a870bab5d1f50df85df26560169193143f72b63ba9088e8963523fe8808da8e2", func := "orrery/orrerylaw07.PgcdOdds", spec := "pgcdOdds", unfollowed := true, recurses := true, apart := false }
def PgcdOddsSaid : Prop := pgcdOddsRow.holds Tryz.pinned (OpenSpec.ofChange pgcdOddsSpec)

/-- ITS FALSE NEIGHBOUR: 'it returns false'. Refute it at one input. -/
def pgcdOddsWrong : ChangeSpec := { name := "pgcdOdds", fn := fun _ => fun
  | [d1, d2] => { results := [.lit (.bool false)], args := [d1, d2] }
  | _ => none }
def PgcdOddsWrongFalsely : Prop := pgcdOddsRow.holds Tryz.pinned (OpenSpec.ofChange pgcdOddsWrong)

/-- 'orrerylaw07.PgcdLaws': WHATEVER THE INPUT: true; the input reads as it did. -/
def pgcdLawsSpec : ChangeSpec := { name := "pgcdLaws", fn := fun _ => fun
  | [d] => { results := [.lit (.bool true)], args := [d] }
  | _ => none }
def pgcdLawsRow : OpenClaim := { program := "ytgebobdieekjaaagreat", sum := "a870bab5d1f50df85df26560169193143f72b63ba9088e8963523fe8808da8e2", func := "orrery/orrerylaw07.PgcdLaws", spec := "pgcdLaws", unfollowed := true, recurses := true, apart := false }
def PgcdLawsSaid : Prop := pgcdLawsRow.holds Tryz.pinned (OpenSpec.ofChange pgcdLawsSpec)

/-- ITS FALSE NEIGHBOUR: 'it returns false'. Refute it at one input. -/
def pgcdLawsWrong : ChangeSpec := { name := "pgcdLaws", fn := fun _ => fun
  | [d] => { results := [.lit (.bool false)], args := [d] }
  | _ => none }
def PgcdLawsWrongFalsely : Prop := pgcdLawsRow.holds Tryz.pinned (OpenSpec.ofChange pgcdLawsWrong)

/-- 'orrerylaw14.PredThrees': WHATEVER THE INPUT: true; the input reads as it did. -/
def predThreesSpec : ChangeSpec := { name := "predThrees", fn := fun _ => fun
  | [d] => { results := [.lit (.bool true)], args := [d] }
  | _ => none }
def predThreesRow : OpenClaim := { program := "ytgebobdieekjaaagreat", sum := "a870bab5d1f50df85df26560169193143f72b63ba9088e8963523fe8808da8e2", func := "orrery/orrerylaw14.PredThrees", spec := "predThrees", unfollowed := true, recurses := true, apart := false }
def PredThreesSaid : Prop := predThreesRow.holds Tryz.pinned (OpenSpec.ofChange predThreesSpec)

/-- ITS FALSE NEIGHBOUR: 'it returns false'. Refute it at one input. -/
def predThreesWrong : ChangeSpec := { name := "predThrees", fn := fun _ => fun
  | [d] => { results := [.lit (.bool false)], args := [d] }
  | _ => none }
def PredThreesWrongFalsely : Prop := predThreesRow.holds Tryz.pinned (OpenSpec.ofChange predThreesWrong)

/-- 'orrerylaw14.PredCircles': WHATEVER THE INPUT: true; the input reads as it did. -/
def predCirclesSpec : ChangeSpec := { name := "predCircles", fn := fun _ => fun
  | [d1, d2, d3] => { results := [.lit (.bool true)], args := [d1, d2, d3] }
  | _ => none }
def predCirclesRow : OpenClaim := { program := "ytgebobdieekjaaagreat", sum := "a870bab5d1f50df85df26560169193143f72b63ba9088e8963523fe8808da8e2", func := "orrery/orrerylaw14.PredCircles", spec := "predCircles", unfollowed := true, recurses := true, apart := false }
def PredCirclesSaid : Prop := predCirclesRow.holds Tryz.pinned (OpenSpec.ofChange predCirclesSpec)

/-- ITS FALSE NEIGHBOUR: 'it returns false'. Refute it at one input. -/
def predCirclesWrong : ChangeSpec := { name := "predCircles", fn := fun _ => fun
  | [d1, d2, d3] => { results := [.lit (.bool false)], args := [d1, d2, d3] }
  | _ => none }
def PredCirclesWrongFalsely : Prop := predCirclesRow.holds Tryz.pinned (OpenSpec.ofChange predCirclesWrong)

/-- 'orrerylaw14.PredFours': WHATEVER THE INPUT: true; the input reads as it did. -/
def predFoursSpec : ChangeSpec := { name := "predFours", fn := fun _ => fun
  | [d] => { results := [.lit (.bool true)], args := [d] }
  | _ => none }
def predFoursRow : OpenClaim := { program := "ytgebobdieekjaaagreat", sum := "a870bab5d1f50df85df26560169193143f72b63ba9088e8963523fe8808da8e2", func := "orrery/orrerylaw14.PredFours", spec := "predFours", unfollowed := true, recurses := true, apart := false }
def PredFoursSaid : Prop := predFoursRow.holds Tryz.pinned (OpenSpec.ofChange predFoursSpec)

/-- ITS FALSE NEIGHBOUR: 'it returns false'. Refute it at one input. -/
def predFoursWrong : ChangeSpec := { name := "predFours", fn := fun _ => fun
  | [d] => { results := [.lit (.bool false)], args := [d] }
  | _ => none }
def PredFoursWrongFalsely : Prop := predFoursRow.holds Tryz.pinned (OpenSpec.ofChange predFoursWrong)

/-- 'orrerylaw14.PredLines': WHATEVER THE INPUT: true; the input reads as it did. -/
def predLinesSpec : ChangeSpec := { name := "predLines", fn := fun _ => fun
  | [d1, d2, d3] => { results := [.lit (.bool true)], args := [d1, d2, d3] }
  | _ => none }
def predLinesRow : OpenClaim := { program := "ytgebobdieekjaaagreat", sum := "a870bab5d1f50df85df26560169193143f72b63ba9088e8963523fe8808da8e2", func := "orrery/orrerylaw14.PredLines", spec := "predLines", unfollowed := true, recurses := true, apart := false }
def PredLinesSaid : Prop := predLinesRow.holds Tryz.pinned (OpenSpec.ofChange predLinesSpec)

/-- ITS FALSE NEIGHBOUR: 'it returns false'. Refute it at one input. -/
def predLinesWrong : ChangeSpec := { name := "predLines", fn := fun _ => fun
  | [d1, d2, d3] => { results := [.lit (.bool false)], args := [d1, d2, d3] }
  | _ => none }
def PredLinesWrongFalsely : Prop := predLinesRow.holds Tryz.pinned (OpenSpec.ofChange predLinesWrong)

/-- 'orrerylaw14.PredTwos': WHATEVER THE INPUT: true; the input reads as it did. -/
def predTwosSpec : ChangeSpec := { name := "predTwos", fn := fun _ => fun
  | [d] => { results := [.lit (.bool true)], args := [d] }
  | _ => none }
def predTwosRow : OpenClaim := { program := "ytgebobdieekjaaagreat", sum := "a870bab5d1f50df85df26560169193143f72b63ba9088e8963523fe8808da8e2", func := "orrery/orrerylaw14.PredTwos", spec := "predTwos", unfollowed := true, recurses := true, apart := false }
def PredTwosSaid : Prop := predTwosRow.holds Tryz.pinned (OpenSpec.ofChange predTwosSpec)

/-- ITS FALSE NEIGHBOUR: 'it returns false'. Refute it at one input. -/
def predTwosWrong : ChangeSpec := { name := "predTwos", fn := fun _ => fun
  | [d] => { results := [.lit (.bool false)], args := [d] }
  | _ => none }
def PredTwosWrongFalsely : Prop := predTwosRow.holds Tryz.pinned (OpenSpec.ofChange predTwosWrong)

/-- 'orrerylaw14.PredTurned': WHATEVER THE INPUT: true; the input reads as it did. -/
def predTurnedSpec : ChangeSpec := { name := "predTurned", fn := fun _ => fun
  | [d1, d2, d3] => { results := [.lit (.bool true)], args := [d1, d2, d3] }
  | _ => none }
def predTurnedRow : OpenClaim := { program := "ytgebobdieekjaaagreat", sum := "a870bab5d1f50df85df26560169193143f72b63ba9088e8963523fe8808da8e2", func := "orrery/orrerylaw14.PredTurned", spec := "predTurned", unfollowed := true, recurses := true, apart := false }
def PredTurnedSaid : Prop := predTurnedRow.holds Tryz.pinned (OpenSpec.ofChange predTurnedSpec)

/-- ITS FALSE NEIGHBOUR: 'it returns false'. Refute it at one input. -/
def predTurnedWrong : ChangeSpec := { name := "predTurned", fn := fun _ => fun
  | [d1, d2, d3] => { results := [.lit (.bool false)], args := [d1, d2, d3] }
  | _ => none }
def PredTurnedWrongFalsely : Prop := predTurnedRow.holds Tryz.pinned (OpenSpec.ofChange predTurnedWrong)

/- THE SECOND FORM. 'bulk': how many values and letters a reading holds, each counted each time it is reached (what is shared counts as often as it is met; a slice's spare places count too). A statement '..UptoSaid' is the law's where the arguments, and the package variables that the reading takes, are together of bulk at most 1048576: NARROWER than '..Said'. Prove '..Said' where nothing that the law and all that it calls make is longer than what came in: it says more and counts as full. Else prove '..UptoSaid'. A law counts once. -/
mutual
def uptoBulk {H : Type} : DataW H → Nat
  | .lit (.string bytes) => bytes.length + 1
  | .lit _ => 1
  | .nil => 1
  | .ptr d => uptoBulk d + 1
  | .slice elems spare => uptoBulkAll elems + uptoBulkAll spare + 1
  | .agg parts => uptoBulkAll parts + 1
  | .iface _ d => uptoBulk d + 1
  | .map entries => uptoBulkEntries entries + 1
  | .held _ => 1
def uptoBulkAll {H : Type} : List (DataW H) → Nat
  | [] => 0
  | d :: r => uptoBulk d + uptoBulkAll r
def uptoBulkEntries {H : Type} : List (Lit × DataW H) → Nat
  | [] => 0
  | x :: r => uptoBulkEntry x + uptoBulkEntries r
def uptoBulkEntry {H : Type} : Lit × DataW H → Nat
  | (.string bytes, d) => bytes.length + uptoBulk d + 1
  | (_, d) => uptoBulk d + 1
 end
def uptoSmall : (H : Type) → List (DataW H) → Bool := fun _ ds => decide (uptoBulkAll ds ≤ 1048576)
def OpenSpec.upto (s : _root_.Go.ChangeSpec) : _root_.Go.OpenSpec := { _root_.Go.OpenSpec.ofChange s with cond := some uptoSmall }

/-- 'orrerylaw07.PgcdFactors', WHERE WHAT IT READS IS OF BULK AT MOST 1048576: true; the input reads as it did. -/
def pgcdFactorsUptoRow : OpenClaim := { program := "ytgebobdieekjaaagreat", sum := "a870bab5d1f50df85df26560169193143f72b63ba9088e8963523fe8808da8e2", func := "orrery/orrerylaw07.PgcdFactors", spec := "pgcdFactors", unfollowed := true, recurses := true, apart := false, narrowed := true }
def PgcdFactorsUptoSaid : Prop := pgcdFactorsUptoRow.holds Tryz.pinned (OpenSpec.upto pgcdFactorsSpec)

/-- 'orrerylaw07.PgcdGcds', WHERE WHAT IT READS IS OF BULK AT MOST 1048576: true; the input reads as it did. -/
def pgcdGcdsUptoRow : OpenClaim := { program := "ytgebobdieekjaaagreat", sum := "a870bab5d1f50df85df26560169193143f72b63ba9088e8963523fe8808da8e2", func := "orrery/orrerylaw07.PgcdGcds", spec := "pgcdGcds", unfollowed := true, recurses := true, apart := false, narrowed := true }
def PgcdGcdsUptoSaid : Prop := pgcdGcdsUptoRow.holds Tryz.pinned (OpenSpec.upto pgcdGcdsSpec)

/-- 'orrerylaw07.PgcdRaw', WHERE WHAT IT READS IS OF BULK AT MOST 1048576: true; the input reads as it did. -/
def pgcdRawUptoRow : OpenClaim := { program := "ytgebobdieekjaaagreat", sum := "a870bab5d1f50df85df26560169193143f72b63ba9088e8963523fe8808da8e2", func := "orrery/orrerylaw07.PgcdRaw", spec := "pgcdRaw", unfollowed := true, recurses := true, apart := false, narrowed := true }
def PgcdRawUptoSaid : Prop := pgcdRawUptoRow.holds Tryz.pinned (OpenSpec.upto pgcdRawSpec)

/-- 'orrerylaw07.PgcdShares', WHERE WHAT IT READS IS OF BULK AT MOST 1048576: true; the input reads as it did. -/
def pgcdSharesUptoRow : OpenClaim := { program := "ytgebobdieekjaaagreat", sum := "a870bab5d1f50df85df26560169193143f72b63ba9088e8963523fe8808da8e2", func := "orrery/orrerylaw07.PgcdShares", spec := "pgcdShares", unfollowed := true, recurses := true, apart := false, narrowed := true }
def PgcdSharesUptoSaid : Prop := pgcdSharesUptoRow.holds Tryz.pinned (OpenSpec.upto pgcdSharesSpec)

/-- 'orrerylaw07.PgcdOdds', WHERE WHAT IT READS IS OF BULK AT MOST 1048576: true; the input reads as it did. -/
def pgcdOddsUptoRow : OpenClaim := { program := "ytgebobdieekjaaagreat", sum := "a870bab5d1f50df85df26560169193143f72b63ba9088e8963523fe8808da8e2", func := "orrery/orrerylaw07.PgcdOdds", spec := "pgcdOdds", unfollowed := true, recurses := true, apart := false, narrowed := true }
def PgcdOddsUptoSaid : Prop := pgcdOddsUptoRow.holds Tryz.pinned (OpenSpec.upto pgcdOddsSpec)

/-- 'orrerylaw07.PgcdLaws', WHERE WHAT IT READS IS OF BULK AT MOST 1048576: true; the input reads as it did. -/
def pgcdLawsUptoRow : OpenClaim := { program := "ytgebobdieekjaaagreat", sum := "a870bab5d1f50df85df26560169193143f72b63ba9088e8963523fe8808da8e2", func := "orrery/orrerylaw07.PgcdLaws", spec := "pgcdLaws", unfollowed := true, recurses := true, apart := false, narrowed := true }
def PgcdLawsUptoSaid : Prop := pgcdLawsUptoRow.holds Tryz.pinned (OpenSpec.upto pgcdLawsSpec)

/-- 'orrerylaw14.PredThrees', WHERE WHAT IT READS IS OF BULK AT MOST 1048576: true; the input reads as it did. -/
def predThreesUptoRow : OpenClaim := { program := "ytgebobdieekjaaagreat", sum := "a870bab5d1f50df85df26560169193143f72b63ba9088e8963523fe8808da8e2", func := "orrery/orrerylaw14.PredThrees", spec := "predThrees", unfollowed := true, recurses := true, apart := false, narrowed := true }
def PredThreesUptoSaid : Prop := predThreesUptoRow.holds Tryz.pinned (OpenSpec.upto predThreesSpec)

/-- 'orrerylaw14.PredCircles', WHERE WHAT IT READS IS OF BULK AT MOST 1048576: true; the input reads as it did. -/
def predCirclesUptoRow : OpenClaim := { program := "ytgebobdieekjaaagreat", sum := "a870bab5d1f50df85df26560169193143f72b63ba9088e8963523fe8808da8e2", func := "orrery/orrerylaw14.PredCircles", spec := "predCircles", unfollowed := true, recurses := true, apart := false, narrowed := true }
def PredCirclesUptoSaid : Prop := predCirclesUptoRow.holds Tryz.pinned (OpenSpec.upto predCirclesSpec)

/-- 'orrerylaw14.PredFours', WHERE WHAT IT READS IS OF BULK AT MOST 1048576: true; the input reads as it did. -/
def predFoursUptoRow : OpenClaim := { program := "ytgebobdieekjaaagreat", sum := "a870bab5d1f50df85df26560169193143f72b63ba9088e8963523fe8808da8e2", func := "orrery/orrerylaw14.PredFours", spec := "predFours", unfollowed := true, recurses := true, apart := false, narrowed := true }
def PredFoursUptoSaid : Prop := predFoursUptoRow.holds Tryz.pinned (OpenSpec.upto predFoursSpec)

/-- 'orrerylaw14.PredLines', WHERE WHAT IT READS IS OF BULK AT MOST 1048576: true; the input reads as it did. -/
def predLinesUptoRow : OpenClaim := { program := "ytgebobdieekjaaagreat", sum := "a870bab5d1f50df85df26560169193143f72b63ba9088e8963523fe8808da8e2", func := "orrery/orrerylaw14.PredLines", spec := "predLines", unfollowed := true, recurses := true, apart := false, narrowed := true }
def PredLinesUptoSaid : Prop := predLinesUptoRow.holds Tryz.pinned (OpenSpec.upto predLinesSpec)

/-- 'orrerylaw14.PredTwos', WHERE WHAT IT READS IS OF BULK AT MOST 1048576: true; the input reads as it did. -/
def predTwosUptoRow : OpenClaim := { program := "ytgebobdieekjaaagreat", sum := "a870bab5d1f50df85df26560169193143f72b63ba9088e8963523fe8808da8e2", func := "orrery/orrerylaw14.PredTwos", spec := "predTwos", unfollowed := true, recurses := true, apart := false, narrowed := true }
def PredTwosUptoSaid : Prop := predTwosUptoRow.holds Tryz.pinned (OpenSpec.upto predTwosSpec)

/-- 'orrerylaw14.PredTurned', WHERE WHAT IT READS IS OF BULK AT MOST 1048576: true; the input reads as it did. -/
def predTurnedUptoRow : OpenClaim := { program := "ytgebobdieekjaaagreat", sum := "a870bab5d1f50df85df26560169193143f72b63ba9088e8963523fe8808da8e2", func := "orrery/orrerylaw14.PredTurned", spec := "predTurned", unfollowed := true, recurses := true, apart := false, narrowed := true }
def PredTurnedUptoSaid : Prop := predTurnedUptoRow.holds Tryz.pinned (OpenSpec.upto predTurnedSpec)

end Rows
end Go.Proofs.YtgebobdieekjaaaGreat
