/-
  No cell of these rows narrows 'for every input' (looked for: loops, veiled, ifaces, maps, wideKeys, modest, calm, conditions, laid).
  DERIVED. THE GIVEN ROWS OF THIS SEAT. 17 by the template 'for every input the law returns true; each argument reads behind the call as it read before'; 0 by the template 'total and deterministic' (their statements: YtbbjgncblhfegaaGreatTotals.lean).
  GIVEN WITH THE SEED: the statements are not yours to turn. If you find one false, say at which input.
  Laid BY PROGRAM, IN A SANDBOX (cutbox-rows.mjs): the forced cells as the released guide's own fill.sh prints them over the translation b403fbdec82355e2… (all of the seat's roots in one cut). By AI agents, Wed Nov 11 2026. No macro, syntax, notation, axiom, sorry.
-/
import Derived.Test.YtbbjgncblhfegaaGreatChecked
import GoSem.Claim
import GoSem.ClaimJoined
import GoSem.ClaimMapViews
import Derived.JoinedTies
import Derived.KernelRfl
namespace Go.Proofs.YtbbjgncblhfegaaGreat
/- THE CELL 'sum', in the pinned program and in every row, IS THE sha256 OF THE DUMP (.gsa) THAT YtbbjgncblhfegaaGreatProg.lean LOADS. Nothing in Lean hashes anything: it is a label: what it is worth is what the hold of that sum in a sandbox is worth. -/
noncomputable def Tryz.pinned : Pinned := { name := "ytbbjgncblhfegaagreat", sum := "b403fbdec82355e2aa7a76c8cc42f9561b2faf7f3931d16fbff635701e3b6f72", checked := Tryz.checked }
namespace Rows
def none {H : Type} : Left H := { results := [], args := [] }

/-- 'orrerylaw09.IsolateRoots': WHATEVER THE INPUT: true; the input reads as it did. -/
def isolateRootsSpec : ChangeSpec := { name := "isolateRoots", fn := fun _ => fun
  | [d] => { results := [.lit (.bool true)], args := [d] }
  | _ => none }
def isolateRootsRow : OpenClaim := { program := "ytbbjgncblhfegaagreat", sum := "b403fbdec82355e2aa7a76c8cc42f9561b2faf7f3931d16fbff635701e3b6f72", func := "orrery/orrerylaw09.IsolateRoots", spec := "isolateRoots", unfollowed := true, recurses := true, apart := false }
def IsolateRootsSaid : Prop := isolateRootsRow.holds Tryz.pinned (OpenSpec.ofChange isolateRootsSpec)

/-- ITS FALSE NEIGHBOUR: 'it returns false'. Refute it at one input. -/
def isolateRootsWrong : ChangeSpec := { name := "isolateRoots", fn := fun _ => fun
  | [d] => { results := [.lit (.bool false)], args := [d] }
  | _ => none }
def IsolateRootsWrongFalsely : Prop := isolateRootsRow.holds Tryz.pinned (OpenSpec.ofChange isolateRootsWrong)

/-- 'orrerylaw09.IsolateRaw': WHATEVER THE INPUT: true; the input reads as it did. -/
def isolateRawSpec : ChangeSpec := { name := "isolateRaw", fn := fun _ => fun
  | [d] => { results := [.lit (.bool true)], args := [d] }
  | _ => none }
def isolateRawRow : OpenClaim := { program := "ytbbjgncblhfegaagreat", sum := "b403fbdec82355e2aa7a76c8cc42f9561b2faf7f3931d16fbff635701e3b6f72", func := "orrery/orrerylaw09.IsolateRaw", spec := "isolateRaw", unfollowed := true, recurses := true, apart := false }
def IsolateRawSaid : Prop := isolateRawRow.holds Tryz.pinned (OpenSpec.ofChange isolateRawSpec)

/-- ITS FALSE NEIGHBOUR: 'it returns false'. Refute it at one input. -/
def isolateRawWrong : ChangeSpec := { name := "isolateRaw", fn := fun _ => fun
  | [d] => { results := [.lit (.bool false)], args := [d] }
  | _ => none }
def IsolateRawWrongFalsely : Prop := isolateRawRow.holds Tryz.pinned (OpenSpec.ofChange isolateRawWrong)

/-- 'orrerylaw09.IsolateValids': WHATEVER THE INPUT: true; the input reads as it did. -/
def isolateValidsSpec : ChangeSpec := { name := "isolateValids", fn := fun _ => fun
  | [d1, d2, d3, d4, d5, d6] => { results := [.lit (.bool true)], args := [d1, d2, d3, d4, d5, d6] }
  | _ => none }
def isolateValidsRow : OpenClaim := { program := "ytbbjgncblhfegaagreat", sum := "b403fbdec82355e2aa7a76c8cc42f9561b2faf7f3931d16fbff635701e3b6f72", func := "orrery/orrerylaw09.IsolateValids", spec := "isolateValids", unfollowed := true, recurses := true, apart := false }
def IsolateValidsSaid : Prop := isolateValidsRow.holds Tryz.pinned (OpenSpec.ofChange isolateValidsSpec)

/-- ITS FALSE NEIGHBOUR: 'it returns false'. Refute it at one input. -/
def isolateValidsWrong : ChangeSpec := { name := "isolateValids", fn := fun _ => fun
  | [d1, d2, d3, d4, d5, d6] => { results := [.lit (.bool false)], args := [d1, d2, d3, d4, d5, d6] }
  | _ => none }
def IsolateValidsWrongFalsely : Prop := isolateValidsRow.holds Tryz.pinned (OpenSpec.ofChange isolateValidsWrong)

/-- 'orrerylaw09.IsolateProducts': WHATEVER THE INPUT: true; the input reads as it did. -/
def isolateProductsSpec : ChangeSpec := { name := "isolateProducts", fn := fun _ => fun
  | [d1, d2] => { results := [.lit (.bool true)], args := [d1, d2] }
  | _ => none }
def isolateProductsRow : OpenClaim := { program := "ytbbjgncblhfegaagreat", sum := "b403fbdec82355e2aa7a76c8cc42f9561b2faf7f3931d16fbff635701e3b6f72", func := "orrery/orrerylaw09.IsolateProducts", spec := "isolateProducts", unfollowed := true, recurses := true, apart := false }
def IsolateProductsSaid : Prop := isolateProductsRow.holds Tryz.pinned (OpenSpec.ofChange isolateProductsSpec)

/-- ITS FALSE NEIGHBOUR: 'it returns false'. Refute it at one input. -/
def isolateProductsWrong : ChangeSpec := { name := "isolateProducts", fn := fun _ => fun
  | [d1, d2] => { results := [.lit (.bool false)], args := [d1, d2] }
  | _ => none }
def IsolateProductsWrongFalsely : Prop := isolateProductsRow.holds Tryz.pinned (OpenSpec.ofChange isolateProductsWrong)

/-- 'orrerylaw09.IsolateFirsts': WHATEVER THE INPUT: true; the input reads as it did. -/
def isolateFirstsSpec : ChangeSpec := { name := "isolateFirsts", fn := fun _ => fun
  | [d1, d2, d3, d4, d5] => { results := [.lit (.bool true)], args := [d1, d2, d3, d4, d5] }
  | _ => none }
def isolateFirstsRow : OpenClaim := { program := "ytbbjgncblhfegaagreat", sum := "b403fbdec82355e2aa7a76c8cc42f9561b2faf7f3931d16fbff635701e3b6f72", func := "orrery/orrerylaw09.IsolateFirsts", spec := "isolateFirsts", unfollowed := true, recurses := true, apart := false }
def IsolateFirstsSaid : Prop := isolateFirstsRow.holds Tryz.pinned (OpenSpec.ofChange isolateFirstsSpec)

/-- ITS FALSE NEIGHBOUR: 'it returns false'. Refute it at one input. -/
def isolateFirstsWrong : ChangeSpec := { name := "isolateFirsts", fn := fun _ => fun
  | [d1, d2, d3, d4, d5] => { results := [.lit (.bool false)], args := [d1, d2, d3, d4, d5] }
  | _ => none }
def IsolateFirstsWrongFalsely : Prop := isolateFirstsRow.holds Tryz.pinned (OpenSpec.ofChange isolateFirstsWrong)

/-- 'orrerylaw09.IsolateKnown': WHATEVER THE INPUT: true; the input reads as it did. -/
def isolateKnownSpec : ChangeSpec := { name := "isolateKnown", fn := fun _ => fun
  | [d] => { results := [.lit (.bool true)], args := [d] }
  | _ => none }
def isolateKnownRow : OpenClaim := { program := "ytbbjgncblhfegaagreat", sum := "b403fbdec82355e2aa7a76c8cc42f9561b2faf7f3931d16fbff635701e3b6f72", func := "orrery/orrerylaw09.IsolateKnown", spec := "isolateKnown", unfollowed := true, recurses := true, apart := false }
def IsolateKnownSaid : Prop := isolateKnownRow.holds Tryz.pinned (OpenSpec.ofChange isolateKnownSpec)

/-- ITS FALSE NEIGHBOUR: 'it returns false'. Refute it at one input. -/
def isolateKnownWrong : ChangeSpec := { name := "isolateKnown", fn := fun _ => fun
  | [d] => { results := [.lit (.bool false)], args := [d] }
  | _ => none }
def IsolateKnownWrongFalsely : Prop := isolateKnownRow.holds Tryz.pinned (OpenSpec.ofChange isolateKnownWrong)

/-- 'orrerylaw11.GermTurns': WHATEVER THE INPUT: true; the input reads as it did. -/
def germTurnsSpec : ChangeSpec := { name := "germTurns", fn := fun _ => fun
  | [d] => { results := [.lit (.bool true)], args := [d] }
  | _ => none }
def germTurnsRow : OpenClaim := { program := "ytbbjgncblhfegaagreat", sum := "b403fbdec82355e2aa7a76c8cc42f9561b2faf7f3931d16fbff635701e3b6f72", func := "orrery/orrerylaw11.GermTurns", spec := "germTurns", unfollowed := true, recurses := true, apart := false }
def GermTurnsSaid : Prop := germTurnsRow.holds Tryz.pinned (OpenSpec.ofChange germTurnsSpec)

/-- ITS FALSE NEIGHBOUR: 'it returns false'. Refute it at one input. -/
def germTurnsWrong : ChangeSpec := { name := "germTurns", fn := fun _ => fun
  | [d] => { results := [.lit (.bool false)], args := [d] }
  | _ => none }
def GermTurnsWrongFalsely : Prop := germTurnsRow.holds Tryz.pinned (OpenSpec.ofChange germTurnsWrong)

/-- 'orrerylaw11.GermSoon': WHATEVER THE INPUT: true; the input reads as it did. -/
def germSoonSpec : ChangeSpec := { name := "germSoon", fn := fun _ => fun
  | [d1, d2, d3, d4] => { results := [.lit (.bool true)], args := [d1, d2, d3, d4] }
  | _ => none }
def germSoonRow : OpenClaim := { program := "ytbbjgncblhfegaagreat", sum := "b403fbdec82355e2aa7a76c8cc42f9561b2faf7f3931d16fbff635701e3b6f72", func := "orrery/orrerylaw11.GermSoon", spec := "germSoon", unfollowed := true, recurses := true, apart := false }
def GermSoonSaid : Prop := germSoonRow.holds Tryz.pinned (OpenSpec.ofChange germSoonSpec)

/-- ITS FALSE NEIGHBOUR: 'it returns false'. Refute it at one input. -/
def germSoonWrong : ChangeSpec := { name := "germSoon", fn := fun _ => fun
  | [d1, d2, d3, d4] => { results := [.lit (.bool false)], args := [d1, d2, d3, d4] }
  | _ => none }
def GermSoonWrongFalsely : Prop := germSoonRow.holds Tryz.pinned (OpenSpec.ofChange germSoonWrong)

/-- 'orrerylaw11.GermSquares': WHATEVER THE INPUT: true; the input reads as it did. -/
def germSquaresSpec : ChangeSpec := { name := "germSquares", fn := fun _ => fun
  | [d1, d2] => { results := [.lit (.bool true)], args := [d1, d2] }
  | _ => none }
def germSquaresRow : OpenClaim := { program := "ytbbjgncblhfegaagreat", sum := "b403fbdec82355e2aa7a76c8cc42f9561b2faf7f3931d16fbff635701e3b6f72", func := "orrery/orrerylaw11.GermSquares", spec := "germSquares", unfollowed := true, recurses := true, apart := false }
def GermSquaresSaid : Prop := germSquaresRow.holds Tryz.pinned (OpenSpec.ofChange germSquaresSpec)

/-- ITS FALSE NEIGHBOUR: 'it returns false'. Refute it at one input. -/
def germSquaresWrong : ChangeSpec := { name := "germSquares", fn := fun _ => fun
  | [d1, d2] => { results := [.lit (.bool false)], args := [d1, d2] }
  | _ => none }
def GermSquaresWrongFalsely : Prop := germSquaresRow.holds Tryz.pinned (OpenSpec.ofChange germSquaresWrong)

/-- 'orrerylaw11.GermAfters': WHATEVER THE INPUT: true; the input reads as it did. -/
def germAftersSpec : ChangeSpec := { name := "germAfters", fn := fun _ => fun
  | [d1, d2, d3, d4] => { results := [.lit (.bool true)], args := [d1, d2, d3, d4] }
  | _ => none }
def germAftersRow : OpenClaim := { program := "ytbbjgncblhfegaagreat", sum := "b403fbdec82355e2aa7a76c8cc42f9561b2faf7f3931d16fbff635701e3b6f72", func := "orrery/orrerylaw11.GermAfters", spec := "germAfters", unfollowed := true, recurses := true, apart := false }
def GermAftersSaid : Prop := germAftersRow.holds Tryz.pinned (OpenSpec.ofChange germAftersSpec)

/-- ITS FALSE NEIGHBOUR: 'it returns false'. Refute it at one input. -/
def germAftersWrong : ChangeSpec := { name := "germAfters", fn := fun _ => fun
  | [d1, d2, d3, d4] => { results := [.lit (.bool false)], args := [d1, d2, d3, d4] }
  | _ => none }
def GermAftersWrongFalsely : Prop := germAftersRow.holds Tryz.pinned (OpenSpec.ofChange germAftersWrong)

/-- 'orrerylaw11.GermAts': WHATEVER THE INPUT: true; the input reads as it did. -/
def germAtsSpec : ChangeSpec := { name := "germAts", fn := fun _ => fun
  | [d1, d2, d3, d4] => { results := [.lit (.bool true)], args := [d1, d2, d3, d4] }
  | _ => none }
def germAtsRow : OpenClaim := { program := "ytbbjgncblhfegaagreat", sum := "b403fbdec82355e2aa7a76c8cc42f9561b2faf7f3931d16fbff635701e3b6f72", func := "orrery/orrerylaw11.GermAts", spec := "germAts", unfollowed := true, recurses := true, apart := false }
def GermAtsSaid : Prop := germAtsRow.holds Tryz.pinned (OpenSpec.ofChange germAtsSpec)

/-- ITS FALSE NEIGHBOUR: 'it returns false'. Refute it at one input. -/
def germAtsWrong : ChangeSpec := { name := "germAts", fn := fun _ => fun
  | [d1, d2, d3, d4] => { results := [.lit (.bool false)], args := [d1, d2, d3, d4] }
  | _ => none }
def GermAtsWrongFalsely : Prop := germAtsRow.holds Tryz.pinned (OpenSpec.ofChange germAtsWrong)

/-- 'orrerylaw11.GermStays': WHATEVER THE INPUT: true; the input reads as it did. -/
def germStaysSpec : ChangeSpec := { name := "germStays", fn := fun _ => fun
  | [d1, d2, d3] => { results := [.lit (.bool true)], args := [d1, d2, d3] }
  | _ => none }
def germStaysRow : OpenClaim := { program := "ytbbjgncblhfegaagreat", sum := "b403fbdec82355e2aa7a76c8cc42f9561b2faf7f3931d16fbff635701e3b6f72", func := "orrery/orrerylaw11.GermStays", spec := "germStays", unfollowed := true, recurses := true, apart := false }
def GermStaysSaid : Prop := germStaysRow.holds Tryz.pinned (OpenSpec.ofChange germStaysSpec)

/-- ITS FALSE NEIGHBOUR: 'it returns false'. Refute it at one input. -/
def germStaysWrong : ChangeSpec := { name := "germStays", fn := fun _ => fun
  | [d1, d2, d3] => { results := [.lit (.bool false)], args := [d1, d2, d3] }
  | _ => none }
def GermStaysWrongFalsely : Prop := germStaysRow.holds Tryz.pinned (OpenSpec.ofChange germStaysWrong)

/-- 'orrerylaw11.GermProducts': WHATEVER THE INPUT: true; the input reads as it did. -/
def germProductsSpec : ChangeSpec := { name := "germProducts", fn := fun _ => fun
  | [d1, d2, d3, d4] => { results := [.lit (.bool true)], args := [d1, d2, d3, d4] }
  | _ => none }
def germProductsRow : OpenClaim := { program := "ytbbjgncblhfegaagreat", sum := "b403fbdec82355e2aa7a76c8cc42f9561b2faf7f3931d16fbff635701e3b6f72", func := "orrery/orrerylaw11.GermProducts", spec := "germProducts", unfollowed := true, recurses := true, apart := false }
def GermProductsSaid : Prop := germProductsRow.holds Tryz.pinned (OpenSpec.ofChange germProductsSpec)

/-- ITS FALSE NEIGHBOUR: 'it returns false'. Refute it at one input. -/
def germProductsWrong : ChangeSpec := { name := "germProducts", fn := fun _ => fun
  | [d1, d2, d3, d4] => { results := [.lit (.bool false)], args := [d1, d2, d3, d4] }
  | _ => none }
def GermProductsWrongFalsely : Prop := germProductsRow.holds Tryz.pinned (OpenSpec.ofChange germProductsWrong)

/-- 'orrerylaw11.GermNexts': WHATEVER THE INPUT: true; the input reads as it did. -/
def germNextsSpec : ChangeSpec := { name := "germNexts", fn := fun _ => fun
  | [d1, d2, d3, d4] => { results := [.lit (.bool true)], args := [d1, d2, d3, d4] }
  | _ => none }
def germNextsRow : OpenClaim := { program := "ytbbjgncblhfegaagreat", sum := "b403fbdec82355e2aa7a76c8cc42f9561b2faf7f3931d16fbff635701e3b6f72", func := "orrery/orrerylaw11.GermNexts", spec := "germNexts", unfollowed := true, recurses := true, apart := false }
def GermNextsSaid : Prop := germNextsRow.holds Tryz.pinned (OpenSpec.ofChange germNextsSpec)

/-- ITS FALSE NEIGHBOUR: 'it returns false'. Refute it at one input. -/
def germNextsWrong : ChangeSpec := { name := "germNexts", fn := fun _ => fun
  | [d1, d2, d3, d4] => { results := [.lit (.bool false)], args := [d1, d2, d3, d4] }
  | _ => none }
def GermNextsWrongFalsely : Prop := germNextsRow.holds Tryz.pinned (OpenSpec.ofChange germNextsWrong)

/-- 'orrerylaw11.GermFirsts': WHATEVER THE INPUT: true; the input reads as it did. -/
def germFirstsSpec : ChangeSpec := { name := "germFirsts", fn := fun _ => fun
  | [d1, d2, d3, d4] => { results := [.lit (.bool true)], args := [d1, d2, d3, d4] }
  | _ => none }
def germFirstsRow : OpenClaim := { program := "ytbbjgncblhfegaagreat", sum := "b403fbdec82355e2aa7a76c8cc42f9561b2faf7f3931d16fbff635701e3b6f72", func := "orrery/orrerylaw11.GermFirsts", spec := "germFirsts", unfollowed := true, recurses := true, apart := false }
def GermFirstsSaid : Prop := germFirstsRow.holds Tryz.pinned (OpenSpec.ofChange germFirstsSpec)

/-- ITS FALSE NEIGHBOUR: 'it returns false'. Refute it at one input. -/
def germFirstsWrong : ChangeSpec := { name := "germFirsts", fn := fun _ => fun
  | [d1, d2, d3, d4] => { results := [.lit (.bool false)], args := [d1, d2, d3, d4] }
  | _ => none }
def GermFirstsWrongFalsely : Prop := germFirstsRow.holds Tryz.pinned (OpenSpec.ofChange germFirstsWrong)

/-- 'orrerylaw14.PredOrders': WHATEVER THE INPUT: true; the input reads as it did. -/
def predOrdersSpec : ChangeSpec := { name := "predOrders", fn := fun _ => fun
  | [d1, d2, d3, d4, d5, d6] => { results := [.lit (.bool true)], args := [d1, d2, d3, d4, d5, d6] }
  | _ => none }
def predOrdersRow : OpenClaim := { program := "ytbbjgncblhfegaagreat", sum := "b403fbdec82355e2aa7a76c8cc42f9561b2faf7f3931d16fbff635701e3b6f72", func := "orrery/orrerylaw14.PredOrders", spec := "predOrders", unfollowed := true, recurses := true, apart := false }
def PredOrdersSaid : Prop := predOrdersRow.holds Tryz.pinned (OpenSpec.ofChange predOrdersSpec)

/-- ITS FALSE NEIGHBOUR: 'it returns false'. Refute it at one input. -/
def predOrdersWrong : ChangeSpec := { name := "predOrders", fn := fun _ => fun
  | [d1, d2, d3, d4, d5, d6] => { results := [.lit (.bool false)], args := [d1, d2, d3, d4, d5, d6] }
  | _ => none }
def PredOrdersWrongFalsely : Prop := predOrdersRow.holds Tryz.pinned (OpenSpec.ofChange predOrdersWrong)

/-- 'orrerylaw14.PredTotal': WHATEVER THE INPUT: true; the input reads as it did. -/
def predTotalSpec : ChangeSpec := { name := "predTotal", fn := fun _ => fun
  | [d1, d2, d3] => { results := [.lit (.bool true)], args := [d1, d2, d3] }
  | _ => none }
def predTotalRow : OpenClaim := { program := "ytbbjgncblhfegaagreat", sum := "b403fbdec82355e2aa7a76c8cc42f9561b2faf7f3931d16fbff635701e3b6f72", func := "orrery/orrerylaw14.PredTotal", spec := "predTotal", unfollowed := true, recurses := true, apart := false }
def PredTotalSaid : Prop := predTotalRow.holds Tryz.pinned (OpenSpec.ofChange predTotalSpec)

/-- ITS FALSE NEIGHBOUR: 'it returns false'. Refute it at one input. -/
def predTotalWrong : ChangeSpec := { name := "predTotal", fn := fun _ => fun
  | [d1, d2, d3] => { results := [.lit (.bool false)], args := [d1, d2, d3] }
  | _ => none }
def PredTotalWrongFalsely : Prop := predTotalRow.holds Tryz.pinned (OpenSpec.ofChange predTotalWrong)

/- THE SECOND FORM. 'bulk': how many values and letters a reading holds, each counted each time it is reached (what is shared counts as often as it is met; a slice's spare places count too). A statement '..UptoSaid' is the law's where the arguments, and the package variables that the reading takes, are together of bulk at most 1048576: NARROWER than '..Said'. Prove '..Said' where nothing that the law and all that it calls make is longer than what came in: it says more and counts as full. Else prove '..UptoSaid'. A law counts once. -/
mutual
def uptoBulk {H : Type} : DataW H → Nat
  | .lit (.string bytes) => bytes.length + 1
  | .lit _ => 1
  | .nil => 1
  | .ptr d => uptoBulk d + 1
  | .slice elems spare => uptoBulkAll elems + uptoBulkAll spare + 1
  | .agg parts => uptoBulkAll parts + 1
  | .iface _ d => uptoBulk d + 1
  | .map entries => uptoBulkEntries entries + 1
  | .held _ => 1
def uptoBulkAll {H : Type} : List (DataW H) → Nat
  | [] => 0
  | d :: r => uptoBulk d + uptoBulkAll r
def uptoBulkEntries {H : Type} : List (Lit × DataW H) → Nat
  | [] => 0
  | x :: r => uptoBulkEntry x + uptoBulkEntries r
def uptoBulkEntry {H : Type} : Lit × DataW H → Nat
  | (.string bytes, d) => bytes.length + uptoBulk d + 1
  | (_, d) => uptoBulk d + 1
 end
def uptoSmall : (H : Type) → List (DataW H) → Bool := fun _ ds => decide (uptoBulkAll ds ≤ 1048576)
def OpenSpec.upto (s : _root_.Go.ChangeSpec) : _root_.Go.OpenSpec := { _root_.Go.OpenSpec.ofChange s with cond := some uptoSmall }

/-- 'orrerylaw09.IsolateRoots', WHERE WHAT IT READS IS OF BULK AT MOST 1048576: true; the input reads as it did. -/
def isolateRootsUptoRow : OpenClaim := { program := "ytbbjgncblhfegaagreat", sum := "b403fbdec82355e2aa7a76c8cc42f9561b2faf7f3931d16fbff635701e3b6f72", func := "orrery/orrerylaw09.IsolateRoots", spec := "isolateRoots", unfollowed := true, recurses := true, apart := false, narrowed := true }
def IsolateRootsUptoSaid : Prop := isolateRootsUptoRow.holds Tryz.pinned (OpenSpec.upto isolateRootsSpec)

/-- 'orrerylaw09.IsolateRaw', WHERE WHAT IT READS IS OF BULK AT MOST 1048576: true; the input reads as it did. -/
def isolateRawUptoRow : OpenClaim := { program := "ytbbjgncblhfegaagreat", sum := "b403fbdec82355e2aa7a76c8cc42f9561b2faf7f3931d16fbff635701e3b6f72", func := "orrery/orrerylaw09.IsolateRaw", spec := "isolateRaw", unfollowed := true, recurses := true, apart := false, narrowed := true }
def IsolateRawUptoSaid : Prop := isolateRawUptoRow.holds Tryz.pinned (OpenSpec.upto isolateRawSpec)

/-- 'orrerylaw09.IsolateValids', WHERE WHAT IT READS IS OF BULK AT MOST 1048576: true; the input reads as it did. -/
def isolateValidsUptoRow : OpenClaim := { program := "ytbbjgncblhfegaagreat", sum := "b403fbdec82355e2aa7a76c8cc42f9561b2faf7f3931d16fbff635701e3b6f72", func := "orrery/orrerylaw09.IsolateValids", spec := "isolateValids", unfollowed := true, recurses := true, apart := false, narrowed := true }
def IsolateValidsUptoSaid : Prop := isolateValidsUptoRow.holds Tryz.pinned (OpenSpec.upto isolateValidsSpec)

/-- 'orrerylaw09.IsolateProducts', WHERE WHAT IT READS IS OF BULK AT MOST 1048576: true; the input reads as it did. -/
def isolateProductsUptoRow : OpenClaim := { program := "ytbbjgncblhfegaagreat", sum := "b403fbdec82355e2aa7a76c8cc42f9561b2faf7f3931d16fbff635701e3b6f72", func := "orrery/orrerylaw09.IsolateProducts", spec := "isolateProducts", unfollowed := true, recurses := true, apart := false, narrowed := true }
def IsolateProductsUptoSaid : Prop := isolateProductsUptoRow.holds Tryz.pinned (OpenSpec.upto isolateProductsSpec)

/-- 'orrerylaw09.IsolateFirsts', WHERE WHAT IT READS IS OF BULK AT MOST 1048576: true; the input reads as it did. -/
def isolateFirstsUptoRow : OpenClaim := { program := "ytbbjgncblhfegaagreat", sum := "b403fbdec82355e2aa7a76c8cc42f9561b2faf7f3931d16fbff635701e3b6f72", func := "orrery/orrerylaw09.IsolateFirsts", spec := "isolateFirsts", unfollowed := true, recurses := true, apart := false, narrowed := true }
def IsolateFirstsUptoSaid : Prop := isolateFirstsUptoRow.holds Tryz.pinned (OpenSpec.upto isolateFirstsSpec)

/-- 'orrerylaw09.IsolateKnown', WHERE WHAT IT READS IS OF BULK AT MOST 1048576: true; the input reads as it did. -/
def isolateKnownUptoRow : OpenClaim := { program := "ytbbjgncblhfegaagreat", sum := "b403fbdec82355e2aa7a76c8cc42f9561b2faf7f3931d16fbff635701e3b6f72", func := "orrery/orrerylaw09.IsolateKnown", spec := "isolateKnown", unfollowed := true, recurses := true, apart := false, narrowed := true }
def IsolateKnownUptoSaid : Prop := isolateKnownUptoRow.holds Tryz.pinned (OpenSpec.upto isolateKnownSpec)

/-- 'orrerylaw11.GermTurns', WHERE WHAT IT READS IS OF BULK AT MOST 1048576: true; the input reads as it did. -/
def germTurnsUptoRow : OpenClaim := { program := "ytbbjgncblhfegaagreat", sum := "b403fbdec82355e2aa7a76c8cc42f9561b2faf7f3931d16fbff635701e3b6f72", func := "orrery/orrerylaw11.GermTurns", spec := "germTurns", unfollowed := true, recurses := true, apart := false, narrowed := true }
def GermTurnsUptoSaid : Prop := germTurnsUptoRow.holds Tryz.pinned (OpenSpec.upto germTurnsSpec)

/-- 'orrerylaw11.GermSoon', WHERE WHAT IT READS IS OF BULK AT MOST 1048576: true; the input reads as it did. -/
def germSoonUptoRow : OpenClaim := { program := "ytbbjgncblhfegaagreat", sum := "b403fbdec82355e2aa7a76c8cc42f9561b2faf7f3931d16fbff635701e3b6f72", func := "orrery/orrerylaw11.GermSoon", spec := "germSoon", unfollowed := true, recurses := true, apart := false, narrowed := true }
def GermSoonUptoSaid : Prop := germSoonUptoRow.holds Tryz.pinned (OpenSpec.upto germSoonSpec)

/-- 'orrerylaw11.GermSquares', WHERE WHAT IT READS IS OF BULK AT MOST 1048576: true; the input reads as it did. -/
def germSquaresUptoRow : OpenClaim := { program := "ytbbjgncblhfegaagreat", sum := "b403fbdec82355e2aa7a76c8cc42f9561b2faf7f3931d16fbff635701e3b6f72", func := "orrery/orrerylaw11.GermSquares", spec := "germSquares", unfollowed := true, recurses := true, apart := false, narrowed := true }
def GermSquaresUptoSaid : Prop := germSquaresUptoRow.holds Tryz.pinned (OpenSpec.upto germSquaresSpec)

/-- 'orrerylaw11.GermAfters', WHERE WHAT IT READS IS OF BULK AT MOST 1048576: true; the input reads as it did. -/
def germAftersUptoRow : OpenClaim := { program := "ytbbjgncblhfegaagreat", sum := "b403fbdec82355e2aa7a76c8cc42f9561b2faf7f3931d16fbff635701e3b6f72", func := "orrery/orrerylaw11.GermAfters", spec := "germAfters", unfollowed := true, recurses := true, apart := false, narrowed := true }
def GermAftersUptoSaid : Prop := germAftersUptoRow.holds Tryz.pinned (OpenSpec.upto germAftersSpec)

/-- 'orrerylaw11.GermAts', WHERE WHAT IT READS IS OF BULK AT MOST 1048576: true; the input reads as it did. -/
def germAtsUptoRow : OpenClaim := { program := "ytbbjgncblhfegaagreat", sum := "b403fbdec82355e2aa7a76c8cc42f9561b2faf7f3931d16fbff635701e3b6f72", func := "orrery/orrerylaw11.GermAts", spec := "germAts", unfollowed := true, recurses := true, apart := false, narrowed := true }
def GermAtsUptoSaid : Prop := germAtsUptoRow.holds Tryz.pinned (OpenSpec.upto germAtsSpec)

/-- 'orrerylaw11.GermStays', WHERE WHAT IT READS IS OF BULK AT MOST 1048576: true; the input reads as it did. -/
def germStaysUptoRow : OpenClaim := { program := "ytbbjgncblhfegaagreat", sum := "b403fbdec82355e2aa7a76c8cc42f9561b2faf7f3931d16fbff635701e3b6f72", func := "orrery/orrerylaw11.GermStays", spec := "germStays", unfollowed := true, recurses := true, apart := false, narrowed := true }
def GermStaysUptoSaid : Prop := germStaysUptoRow.holds Tryz.pinned (OpenSpec.upto germStaysSpec)

/-- 'orrerylaw11.GermProducts', WHERE WHAT IT READS IS OF BULK AT MOST 1048576: true; the input reads as it did. -/
def germProductsUptoRow : OpenClaim := { program := "ytbbjgncblhfegaagreat", sum := "b403fbdec82355e2aa7a76c8cc42f9561b2faf7f3931d16fbff635701e3b6f72", func := "orrery/orrerylaw11.GermProducts", spec := "germProducts", unfollowed := true, recurses := true, apart := false, narrowed := true }
def GermProductsUptoSaid : Prop := germProductsUptoRow.holds Tryz.pinned (OpenSpec.upto germProductsSpec)

/-- 'orrerylaw11.GermNexts', WHERE WHAT IT READS IS OF BULK AT MOST 1048576: true; the input reads as it did. -/
def germNextsUptoRow : OpenClaim := { program := "ytbbjgncblhfegaagreat", sum := "b403fbdec82355e2aa7a76c8cc42f9561b2faf7f3931d16fbff635701e3b6f72", func := "orrery/orrerylaw11.GermNexts", spec := "germNexts", unfollowed := true, recurses := true, apart := false, narrowed := true }
def GermNextsUptoSaid : Prop := germNextsUptoRow.holds Tryz.pinned (OpenSpec.upto germNextsSpec)

/-- 'orrerylaw11.GermFirsts', WHERE WHAT IT READS IS OF BULK AT MOST 1048576: true; the input reads as it did. -/
def germFirstsUptoRow : OpenClaim := { program := "ytbbjgncblhfegaagreat", sum := "b403fbdec82355e2aa7a76c8cc42f9561b2faf7f3931d16fbff635701e3b6f72", func := "orrery/orrerylaw11.GermFirsts", spec := "germFirsts", unfollowed := true, recurses := true, apart := false, narrowed := true }
def GermFirstsUptoSaid : Prop := germFirstsUptoRow.holds Tryz.pinned (OpenSpec.upto germFirstsSpec)

/-- 'orrerylaw14.PredOrders', WHERE WHAT IT READS IS OF BULK AT MOST 1048576: true; the input reads as it did. -/
def predOrdersUptoRow : OpenClaim := { program := "ytbbjgncblhfegaagreat", sum := "b403fbdec82355e2aa7a76c8cc42f9561b2faf7f3931d16fbff635701e3b6f72", func := "orrery/orrerylaw14.PredOrders", spec := "predOrders", unfollowed := true, recurses := true, apart := false, narrowed := true }
def PredOrdersUptoSaid : Prop := predOrdersUptoRow.holds Tryz.pinned (OpenSpec.upto predOrdersSpec)

/-- 'orrerylaw14.PredTotal', WHERE WHAT IT READS IS OF BULK AT MOST 1048576: true; the input reads as it did. -/
def predTotalUptoRow : OpenClaim := { program := "ytbbjgncblhfegaagreat", sum := "b403fbdec82355e2aa7a76c8cc42f9561b2faf7f3931d16fbff635701e3b6f72", func := "orrery/orrerylaw14.PredTotal", spec := "predTotal", unfollowed := true, recurses := true, apart := false, narrowed := true }
def PredTotalUptoSaid : Prop := predTotalUptoRow.holds Tryz.pinned (OpenSpec.upto predTotalSpec)

end Rows
end Go.Proofs.YtbbjgncblhfegaaGreat
