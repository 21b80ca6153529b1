/-
  No cell of these rows narrows 'for every input' (looked for: loops, veiled, ifaces, maps, wideKeys, modest, calm, conditions, laid).
  DERIVED. THE GIVEN ROWS OF THIS SEAT. 12 by the template 'for every input the law returns true; each argument reads behind the call as it read before'; 0 by the template 'total and deterministic' (their statements: YtjnkpfknmncdmaaTotals.lean).
  GIVEN WITH THE SEED: the statements are not yours to turn. If you find one false, say at which input.
  Laid BY PROGRAM, IN A SANDBOX (cutbox-rows.mjs): the forced cells as the released guide's own fill.sh prints them over the translation 90408dcabddb9874… (all of the seat's roots in one cut). By AI agents, Wed Nov 11 2026. No macro, syntax, notation, axiom, sorry.
-/
import Derived.Test.YtjnkpfknmncdmaaChecked
import GoSem.Claim
import GoSem.ClaimJoined
import GoSem.ClaimMapViews
import Derived.JoinedTies
import Derived.KernelRfl
namespace Go.Proofs.Ytjnkpfknmncdmaa
/- THE CELL 'sum', in the pinned program and in every row, IS THE sha256 OF THE DUMP (.gsa) THAT YtjnkpfknmncdmaaProg.lean LOADS. Nothing in Lean hashes anything: it is a label: what it is worth is what the hold of that sum in a sandbox is worth. -/
noncomputable def Try.pinned : Pinned := { name := "ytjnkpfknmncdmaa", sum := "90408dcabddb98741bbd8baa4876fcb37d840495778c77dca079b9057741bc45", checked := Try.checked }
namespace Rows
def none {H : Type} : Left H := { results := [], args := [] }

/-- 'orrerylaw13.DetDets': WHATEVER THE INPUT: true; the input reads as it did. -/
def detDetsSpec : ChangeSpec := { name := "detDets", fn := fun _ => fun
  | [d1, d2, d3] => { results := [.lit (.bool true)], args := [d1, d2, d3] }
  | _ => none }
def detDetsRow : OpenClaim := { program := "ytjnkpfknmncdmaa", sum := "90408dcabddb98741bbd8baa4876fcb37d840495778c77dca079b9057741bc45", func := "orrery/orrerylaw13.DetDets", spec := "detDets", unfollowed := true, recurses := true, apart := false }
def DetDetsSaid : Prop := detDetsRow.holds Try.pinned (OpenSpec.ofChange detDetsSpec)

/-- ITS FALSE NEIGHBOUR: 'it returns false'. Refute it at one input. -/
def detDetsWrong : ChangeSpec := { name := "detDets", fn := fun _ => fun
  | [d1, d2, d3] => { results := [.lit (.bool false)], args := [d1, d2, d3] }
  | _ => none }
def DetDetsWrongFalsely : Prop := detDetsRow.holds Try.pinned (OpenSpec.ofChange detDetsWrong)

/-- 'orrerylaw13.DetMinors': WHATEVER THE INPUT: true; the input reads as it did. -/
def detMinorsSpec : ChangeSpec := { name := "detMinors", fn := fun _ => fun
  | [d1, d2, d3, d4] => { results := [.lit (.bool true)], args := [d1, d2, d3, d4] }
  | _ => none }
def detMinorsRow : OpenClaim := { program := "ytjnkpfknmncdmaa", sum := "90408dcabddb98741bbd8baa4876fcb37d840495778c77dca079b9057741bc45", func := "orrery/orrerylaw13.DetMinors", spec := "detMinors", unfollowed := true, recurses := true, apart := false }
def DetMinorsSaid : Prop := detMinorsRow.holds Try.pinned (OpenSpec.ofChange detMinorsSpec)

/-- ITS FALSE NEIGHBOUR: 'it returns false'. Refute it at one input. -/
def detMinorsWrong : ChangeSpec := { name := "detMinors", fn := fun _ => fun
  | [d1, d2, d3, d4] => { results := [.lit (.bool false)], args := [d1, d2, d3, d4] }
  | _ => none }
def DetMinorsWrongFalsely : Prop := detMinorsRow.holds Try.pinned (OpenSpec.ofChange detMinorsWrong)

/-- 'orrerylaw13.DetTurned': WHATEVER THE INPUT: true; the input reads as it did. -/
def detTurnedSpec : ChangeSpec := { name := "detTurned", fn := fun _ => fun
  | [d1, d2, d3, d4] => { results := [.lit (.bool true)], args := [d1, d2, d3, d4] }
  | _ => none }
def detTurnedRow : OpenClaim := { program := "ytjnkpfknmncdmaa", sum := "90408dcabddb98741bbd8baa4876fcb37d840495778c77dca079b9057741bc45", func := "orrery/orrerylaw13.DetTurned", spec := "detTurned", unfollowed := true, recurses := true, apart := false }
def DetTurnedSaid : Prop := detTurnedRow.holds Try.pinned (OpenSpec.ofChange detTurnedSpec)

/-- ITS FALSE NEIGHBOUR: 'it returns false'. Refute it at one input. -/
def detTurnedWrong : ChangeSpec := { name := "detTurned", fn := fun _ => fun
  | [d1, d2, d3, d4] => { results := [.lit (.bool false)], args := [d1, d2, d3, d4] }
  | _ => none }
def DetTurnedWrongFalsely : Prop := detTurnedRow.holds Try.pinned (OpenSpec.ofChange detTurnedWrong)

/-- 'orrerylaw13.DetLaws': WHATEVER THE INPUT: true; the input reads as it did. -/
def detLawsSpec : ChangeSpec := { name := "detLaws", fn := fun _ => fun
  | [d1, d2, d3, d4, d5] => { results := [.lit (.bool true)], args := [d1, d2, d3, d4, d5] }
  | _ => none }
def detLawsRow : OpenClaim := { program := "ytjnkpfknmncdmaa", sum := "90408dcabddb98741bbd8baa4876fcb37d840495778c77dca079b9057741bc45", func := "orrery/orrerylaw13.DetLaws", spec := "detLaws", unfollowed := true, recurses := true, apart := false }
def DetLawsSaid : Prop := detLawsRow.holds Try.pinned (OpenSpec.ofChange detLawsSpec)

/-- ITS FALSE NEIGHBOUR: 'it returns false'. Refute it at one input. -/
def detLawsWrong : ChangeSpec := { name := "detLaws", fn := fun _ => fun
  | [d1, d2, d3, d4, d5] => { results := [.lit (.bool false)], args := [d1, d2, d3, d4, d5] }
  | _ => none }
def DetLawsWrongFalsely : Prop := detLawsRow.holds Try.pinned (OpenSpec.ofChange detLawsWrong)

/-- 'orrerylaw13.DetExpands': WHATEVER THE INPUT: true; the input reads as it did. -/
def detExpandsSpec : ChangeSpec := { name := "detExpands", fn := fun _ => fun
  | [d1, d2, d3] => { results := [.lit (.bool true)], args := [d1, d2, d3] }
  | _ => none }
def detExpandsRow : OpenClaim := { program := "ytjnkpfknmncdmaa", sum := "90408dcabddb98741bbd8baa4876fcb37d840495778c77dca079b9057741bc45", func := "orrery/orrerylaw13.DetExpands", spec := "detExpands", unfollowed := true, recurses := true, apart := false }
def DetExpandsSaid : Prop := detExpandsRow.holds Try.pinned (OpenSpec.ofChange detExpandsSpec)

/-- ITS FALSE NEIGHBOUR: 'it returns false'. Refute it at one input. -/
def detExpandsWrong : ChangeSpec := { name := "detExpands", fn := fun _ => fun
  | [d1, d2, d3] => { results := [.lit (.bool false)], args := [d1, d2, d3] }
  | _ => none }
def DetExpandsWrongFalsely : Prop := detExpandsRow.holds Try.pinned (OpenSpec.ofChange detExpandsWrong)

/-- 'orrerylaw06.PdivPseudos': WHATEVER THE INPUT: true; the input reads as it did. -/
def pdivPseudosSpec : ChangeSpec := { name := "pdivPseudos", fn := fun _ => fun
  | [d1, d2] => { results := [.lit (.bool true)], args := [d1, d2] }
  | _ => none }
def pdivPseudosRow : OpenClaim := { program := "ytjnkpfknmncdmaa", sum := "90408dcabddb98741bbd8baa4876fcb37d840495778c77dca079b9057741bc45", func := "orrery/orrerylaw06.PdivPseudos", spec := "pdivPseudos", unfollowed := true, recurses := true, apart := false }
def PdivPseudosSaid : Prop := pdivPseudosRow.holds Try.pinned (OpenSpec.ofChange pdivPseudosSpec)

/-- ITS FALSE NEIGHBOUR: 'it returns false'. Refute it at one input. -/
def pdivPseudosWrong : ChangeSpec := { name := "pdivPseudos", fn := fun _ => fun
  | [d1, d2] => { results := [.lit (.bool false)], args := [d1, d2] }
  | _ => none }
def PdivPseudosWrongFalsely : Prop := pdivPseudosRow.holds Try.pinned (OpenSpec.ofChange pdivPseudosWrong)

/-- 'orrerylaw06.PdivRests': WHATEVER THE INPUT: true; the input reads as it did. -/
def pdivRestsSpec : ChangeSpec := { name := "pdivRests", fn := fun _ => fun
  | [d1, d2] => { results := [.lit (.bool true)], args := [d1, d2] }
  | _ => none }
def pdivRestsRow : OpenClaim := { program := "ytjnkpfknmncdmaa", sum := "90408dcabddb98741bbd8baa4876fcb37d840495778c77dca079b9057741bc45", func := "orrery/orrerylaw06.PdivRests", spec := "pdivRests", unfollowed := true, recurses := true, apart := false }
def PdivRestsSaid : Prop := pdivRestsRow.holds Try.pinned (OpenSpec.ofChange pdivRestsSpec)

/-- ITS FALSE NEIGHBOUR: 'it returns false'. Refute it at one input. -/
def pdivRestsWrong : ChangeSpec := { name := "pdivRests", fn := fun _ => fun
  | [d1, d2] => { results := [.lit (.bool false)], args := [d1, d2] }
  | _ => none }
def PdivRestsWrongFalsely : Prop := pdivRestsRow.holds Try.pinned (OpenSpec.ofChange pdivRestsWrong)

/-- 'orrerylaw06.PdivContents': WHATEVER THE INPUT: true; the input reads as it did. -/
def pdivContentsSpec : ChangeSpec := { name := "pdivContents", fn := fun _ => fun
  | [d1, d2, d3] => { results := [.lit (.bool true)], args := [d1, d2, d3] }
  | _ => none }
def pdivContentsRow : OpenClaim := { program := "ytjnkpfknmncdmaa", sum := "90408dcabddb98741bbd8baa4876fcb37d840495778c77dca079b9057741bc45", func := "orrery/orrerylaw06.PdivContents", spec := "pdivContents", unfollowed := true, recurses := true, apart := false }
def PdivContentsSaid : Prop := pdivContentsRow.holds Try.pinned (OpenSpec.ofChange pdivContentsSpec)

/-- ITS FALSE NEIGHBOUR: 'it returns false'. Refute it at one input. -/
def pdivContentsWrong : ChangeSpec := { name := "pdivContents", fn := fun _ => fun
  | [d1, d2, d3] => { results := [.lit (.bool false)], args := [d1, d2, d3] }
  | _ => none }
def PdivContentsWrongFalsely : Prop := pdivContentsRow.holds Try.pinned (OpenSpec.ofChange pdivContentsWrong)

/-- 'orrerylaw06.PdivExacts': WHATEVER THE INPUT: true; the input reads as it did. -/
def pdivExactsSpec : ChangeSpec := { name := "pdivExacts", fn := fun _ => fun
  | [d1, d2, d3] => { results := [.lit (.bool true)], args := [d1, d2, d3] }
  | _ => none }
def pdivExactsRow : OpenClaim := { program := "ytjnkpfknmncdmaa", sum := "90408dcabddb98741bbd8baa4876fcb37d840495778c77dca079b9057741bc45", func := "orrery/orrerylaw06.PdivExacts", spec := "pdivExacts", unfollowed := true, recurses := true, apart := false }
def PdivExactsSaid : Prop := pdivExactsRow.holds Try.pinned (OpenSpec.ofChange pdivExactsSpec)

/-- ITS FALSE NEIGHBOUR: 'it returns false'. Refute it at one input. -/
def pdivExactsWrong : ChangeSpec := { name := "pdivExacts", fn := fun _ => fun
  | [d1, d2, d3] => { results := [.lit (.bool false)], args := [d1, d2, d3] }
  | _ => none }
def PdivExactsWrongFalsely : Prop := pdivExactsRow.holds Try.pinned (OpenSpec.ofChange pdivExactsWrong)

/-- 'orrerylaw06.PdivEuclid': WHATEVER THE INPUT: true; the input reads as it did. -/
def pdivEuclidSpec : ChangeSpec := { name := "pdivEuclid", fn := fun _ => fun
  | [d1, d2, d3] => { results := [.lit (.bool true)], args := [d1, d2, d3] }
  | _ => none }
def pdivEuclidRow : OpenClaim := { program := "ytjnkpfknmncdmaa", sum := "90408dcabddb98741bbd8baa4876fcb37d840495778c77dca079b9057741bc45", func := "orrery/orrerylaw06.PdivEuclid", spec := "pdivEuclid", unfollowed := true, recurses := true, apart := false }
def PdivEuclidSaid : Prop := pdivEuclidRow.holds Try.pinned (OpenSpec.ofChange pdivEuclidSpec)

/-- ITS FALSE NEIGHBOUR: 'it returns false'. Refute it at one input. -/
def pdivEuclidWrong : ChangeSpec := { name := "pdivEuclid", fn := fun _ => fun
  | [d1, d2, d3] => { results := [.lit (.bool false)], args := [d1, d2, d3] }
  | _ => none }
def PdivEuclidWrongFalsely : Prop := pdivEuclidRow.holds Try.pinned (OpenSpec.ofChange pdivEuclidWrong)

/-- 'orrerylaw06.PdivParts': WHATEVER THE INPUT: true; the input reads as it did. -/
def pdivPartsSpec : ChangeSpec := { name := "pdivParts", fn := fun _ => fun
  | [d1, d2] => { results := [.lit (.bool true)], args := [d1, d2] }
  | _ => none }
def pdivPartsRow : OpenClaim := { program := "ytjnkpfknmncdmaa", sum := "90408dcabddb98741bbd8baa4876fcb37d840495778c77dca079b9057741bc45", func := "orrery/orrerylaw06.PdivParts", spec := "pdivParts", unfollowed := true, recurses := true, apart := false }
def PdivPartsSaid : Prop := pdivPartsRow.holds Try.pinned (OpenSpec.ofChange pdivPartsSpec)

/-- ITS FALSE NEIGHBOUR: 'it returns false'. Refute it at one input. -/
def pdivPartsWrong : ChangeSpec := { name := "pdivParts", fn := fun _ => fun
  | [d1, d2] => { results := [.lit (.bool false)], args := [d1, d2] }
  | _ => none }
def PdivPartsWrongFalsely : Prop := pdivPartsRow.holds Try.pinned (OpenSpec.ofChange pdivPartsWrong)

/-- 'orrerylaw06.PdivBack': WHATEVER THE INPUT: true; the input reads as it did. -/
def pdivBackSpec : ChangeSpec := { name := "pdivBack", fn := fun _ => fun
  | [d1, d2] => { results := [.lit (.bool true)], args := [d1, d2] }
  | _ => none }
def pdivBackRow : OpenClaim := { program := "ytjnkpfknmncdmaa", sum := "90408dcabddb98741bbd8baa4876fcb37d840495778c77dca079b9057741bc45", func := "orrery/orrerylaw06.PdivBack", spec := "pdivBack", unfollowed := true, recurses := true, apart := false }
def PdivBackSaid : Prop := pdivBackRow.holds Try.pinned (OpenSpec.ofChange pdivBackSpec)

/-- ITS FALSE NEIGHBOUR: 'it returns false'. Refute it at one input. -/
def pdivBackWrong : ChangeSpec := { name := "pdivBack", fn := fun _ => fun
  | [d1, d2] => { results := [.lit (.bool false)], args := [d1, d2] }
  | _ => none }
def PdivBackWrongFalsely : Prop := pdivBackRow.holds Try.pinned (OpenSpec.ofChange pdivBackWrong)

/- THE SECOND FORM. 'bulk': how many values and letters a reading holds, each counted each time it is reached (what is shared counts as often as it is met; a slice's spare places count too). A statement '..UptoSaid' is the law's where the arguments, and the package variables that the reading takes, are together of bulk at most 1048576: NARROWER than '..Said'. Prove '..Said' where nothing that the law and all that it calls make is longer than what came in: it says more and counts as full. Else prove '..UptoSaid'. A law counts once. -/
mutual
def uptoBulk {H : Type} : DataW H → Nat
  | .lit (.string bytes) => bytes.length + 1
  | .lit _ => 1
  | .nil => 1
  | .ptr d => uptoBulk d + 1
  | .slice elems spare => uptoBulkAll elems + uptoBulkAll spare + 1
  | .agg parts => uptoBulkAll parts + 1
  | .iface _ d => uptoBulk d + 1
  | .map entries => uptoBulkEntries entries + 1
  | .held _ => 1
def uptoBulkAll {H : Type} : List (DataW H) → Nat
  | [] => 0
  | d :: r => uptoBulk d + uptoBulkAll r
def uptoBulkEntries {H : Type} : List (Lit × DataW H) → Nat
  | [] => 0
  | x :: r => uptoBulkEntry x + uptoBulkEntries r
def uptoBulkEntry {H : Type} : Lit × DataW H → Nat
  | (.string bytes, d) => bytes.length + uptoBulk d + 1
  | (_, d) => uptoBulk d + 1
 end
def uptoSmall : (H : Type) → List (DataW H) → Bool := fun _ ds => decide (uptoBulkAll ds ≤ 1048576)
def OpenSpec.upto (s : _root_.Go.ChangeSpec) : _root_.Go.OpenSpec := { _root_.Go.OpenSpec.ofChange s with cond := some uptoSmall }

/-- 'orrerylaw13.DetDets', WHERE WHAT IT READS IS OF BULK AT MOST 1048576: true; the input reads as it did. -/
def detDetsUptoRow : OpenClaim := { program := "ytjnkpfknmncdmaa", sum := "90408dcabddb98741bbd8baa4876fcb37d840495778c77dca079b9057741bc45", func := "orrery/orrerylaw13.DetDets", spec := "detDets", unfollowed := true, recurses := true, apart := false, narrowed := true }
def DetDetsUptoSaid : Prop := detDetsUptoRow.holds Try.pinned (OpenSpec.upto detDetsSpec)

/-- 'orrerylaw13.DetMinors', WHERE WHAT IT READS IS OF BULK AT MOST 1048576: true; the input reads as it did. -/
def detMinorsUptoRow : OpenClaim := { program := "ytjnkpfknmncdmaa", sum := "90408dcabddb98741bbd8baa4876fcb37d840495778c77dca079b9057741bc45", func := "orrery/orrerylaw13.DetMinors", spec := "detMinors", unfollowed := true, recurses := true, apart := false, narrowed := true }
def DetMinorsUptoSaid : Prop := detMinorsUptoRow.holds Try.pinned (OpenSpec.upto detMinorsSpec)

/-- 'orrerylaw13.DetTurned', WHERE WHAT IT READS IS OF BULK AT MOST 1048576: true; the input reads as it did. -/
def detTurnedUptoRow : OpenClaim := { program := "ytjnkpfknmncdmaa", sum := "90408dcabddb98741bbd8baa4876fcb37d840495778c77dca079b9057741bc45", func := "orrery/orrerylaw13.DetTurned", spec := "detTurned", unfollowed := true, recurses := true, apart := false, narrowed := true }
def DetTurnedUptoSaid : Prop := detTurnedUptoRow.holds Try.pinned (OpenSpec.upto detTurnedSpec)

/-- 'orrerylaw13.DetLaws', WHERE WHAT IT READS IS OF BULK AT MOST 1048576: true; the input reads as it did. -/
def detLawsUptoRow : OpenClaim := { program := "ytjnkpfknmncdmaa", sum := "90408dcabddb98741bbd8baa4876fcb37d840495778c77dca079b9057741bc45", func := "orrery/orrerylaw13.DetLaws", spec := "detLaws", unfollowed := true, recurses := true, apart := false, narrowed := true }
def DetLawsUptoSaid : Prop := detLawsUptoRow.holds Try.pinned (OpenSpec.upto detLawsSpec)

/-- 'orrerylaw13.DetExpands', WHERE WHAT IT READS IS OF BULK AT MOST 1048576: true; the input reads as it did. -/
def detExpandsUptoRow : OpenClaim := { program := "ytjnkpfknmncdmaa", sum := "90408dcabddb98741bbd8baa4876fcb37d840495778c77dca079b9057741bc45", func := "orrery/orrerylaw13.DetExpands", spec := "detExpands", unfollowed := true, recurses := true, apart := false, narrowed := true }
def DetExpandsUptoSaid : Prop := detExpandsUptoRow.holds Try.pinned (OpenSpec.upto detExpandsSpec)

/-- 'orrerylaw06.PdivPseudos', WHERE WHAT IT READS IS OF BULK AT MOST 1048576: true; the input reads as it did. -/
def pdivPseudosUptoRow : OpenClaim := { program := "ytjnkpfknmncdmaa", sum := "90408dcabddb98741bbd8baa4876fcb37d840495778c77dca079b9057741bc45", func := "orrery/orrerylaw06.PdivPseudos", spec := "pdivPseudos", unfollowed := true, recurses := true, apart := false, narrowed := true }
def PdivPseudosUptoSaid : Prop := pdivPseudosUptoRow.holds Try.pinned (OpenSpec.upto pdivPseudosSpec)

/-- 'orrerylaw06.PdivRests', WHERE WHAT IT READS IS OF BULK AT MOST 1048576: true; the input reads as it did. -/
def pdivRestsUptoRow : OpenClaim := { program := "ytjnkpfknmncdmaa", sum := "90408dcabddb98741bbd8baa4876fcb37d840495778c77dca079b9057741bc45", func := "orrery/orrerylaw06.PdivRests", spec := "pdivRests", unfollowed := true, recurses := true, apart := false, narrowed := true }
def PdivRestsUptoSaid : Prop := pdivRestsUptoRow.holds Try.pinned (OpenSpec.upto pdivRestsSpec)

/-- 'orrerylaw06.PdivContents', WHERE WHAT IT READS IS OF BULK AT MOST 1048576: true; the input reads as it did. -/
def pdivContentsUptoRow : OpenClaim := { program := "ytjnkpfknmncdmaa", sum := "90408dcabddb98741bbd8baa4876fcb37d840495778c77dca079b9057741bc45", func := "orrery/orrerylaw06.PdivContents", spec := "pdivContents", unfollowed := true, recurses := true, apart := false, narrowed := true }
def PdivContentsUptoSaid : Prop := pdivContentsUptoRow.holds Try.pinned (OpenSpec.upto pdivContentsSpec)

/-- 'orrerylaw06.PdivExacts', WHERE WHAT IT READS IS OF BULK AT MOST 1048576: true; the input reads as it did. -/
def pdivExactsUptoRow : OpenClaim := { program := "ytjnkpfknmncdmaa", sum := "90408dcabddb98741bbd8baa4876fcb37d840495778c77dca079b9057741bc45", func := "orrery/orrerylaw06.PdivExacts", spec := "pdivExacts", unfollowed := true, recurses := true, apart := false, narrowed := true }
def PdivExactsUptoSaid : Prop := pdivExactsUptoRow.holds Try.pinned (OpenSpec.upto pdivExactsSpec)

/-- 'orrerylaw06.PdivEuclid', WHERE WHAT IT READS IS OF BULK AT MOST 1048576: true; the input reads as it did. -/
def pdivEuclidUptoRow : OpenClaim := { program := "ytjnkpfknmncdmaa", sum := "90408dcabddb98741bbd8baa4876fcb37d840495778c77dca079b9057741bc45", func := "orrery/orrerylaw06.PdivEuclid", spec := "pdivEuclid", unfollowed := true, recurses := true, apart := false, narrowed := true }
def PdivEuclidUptoSaid : Prop := pdivEuclidUptoRow.holds Try.pinned (OpenSpec.upto pdivEuclidSpec)

/-- 'orrerylaw06.PdivParts', WHERE WHAT IT READS IS OF BULK AT MOST 1048576: true; the input reads as it did. -/
def pdivPartsUptoRow : OpenClaim := { program := "ytjnkpfknmncdmaa", sum := "90408dcabddb98741bbd8baa4876fcb37d840495778c77dca079b9057741bc45", func := "orrery/orrerylaw06.PdivParts", spec := "pdivParts", unfollowed := true, recurses := true, apart := false, narrowed := true }
def PdivPartsUptoSaid : Prop := pdivPartsUptoRow.holds Try.pinned (OpenSpec.upto pdivPartsSpec)

/-- 'orrerylaw06.PdivBack', WHERE WHAT IT READS IS OF BULK AT MOST 1048576: true; the input reads as it did. -/
def pdivBackUptoRow : OpenClaim := { program := "ytjnkpfknmncdmaa", sum := "90408dcabddb98741bbd8baa4876fcb37d840495778c77dca079b9057741bc45", func := "orrery/orrerylaw06.PdivBack", spec := "pdivBack", unfollowed := true, recurses := true, apart := false, narrowed := true }
def PdivBackUptoSaid : Prop := pdivBackUptoRow.holds Try.pinned (OpenSpec.upto pdivBackSpec)

end Rows
end Go.Proofs.Ytjnkpfknmncdmaa
