/-
  No cell of these rows narrows 'for every input' (looked for: loops, veiled, ifaces, maps, wideKeys, modest, calm, conditions, laid).
  DERIVED. THE GIVEN ROWS OF THIS SEAT. 13 by the template 'for every input the law returns true; each argument reads behind the call as it read before'; 0 by the template 'total and deterministic' (their statements: YtdiladmkbpnhoaaGreatTotals.lean).
  GIVEN WITH THE SEED: the statements are not yours to turn. If you find one false, say at which input.
  Laid BY PROGRAM, IN A SANDBOX (cutbox-rows.mjs): the forced cells as the released guide's own fill.sh prints them over the translation cee781e8d62a9561… (all of the seat's roots in one cut). By AI agents, Wed Nov 11 2026. No macro, syntax, notation, axiom, sorry.
-/
import Derived.Test.YtdiladmkbpnhoaaGreatChecked
import GoSem.Claim
import GoSem.ClaimJoined
import GoSem.ClaimMapViews
import Derived.JoinedTies
import Derived.KernelRfl
namespace Go.Proofs.YtdiladmkbpnhoaaGreat
/- THE CELL 'sum', in the pinned program and in every row, IS THE sha256 OF THE DUMP (.gsa) THAT YtdiladmkbpnhoaaGreatProg.lean LOADS. Nothing in Lean hashes anything: it is a label: what it is worth is what the hold of that sum in a sandbox is worth. -/
noncomputable def Tryz.pinned : Pinned := { name := "ytdiladmkbpnhoaagreat", sum := "cee781e8d62a9561e6ed79272c39cfe3408221beb030e57b21bd3756f684966e", checked := Tryz.checked }
namespace Rows
def none {H : Type} : Left H := { results := [], args := [] }

/-- 'orrerylaw14.PredCircles': WHATEVER THE INPUT: true; the input reads as it did. -/
def predCirclesSpec : ChangeSpec := { name := "predCircles", fn := fun _ => fun
  | [d1, d2, d3] => { results := [.lit (.bool true)], args := [d1, d2, d3] }
  | _ => none }
def predCirclesRow : OpenClaim := { program := "ytdiladmkbpnhoaagreat", sum := "cee781e8d62a9561e6ed79272c39cfe3408221beb030e57b21bd3756f684966e", func := "orrery/orrerylaw14.PredCircles", spec := "predCircles", unfollowed := true, recurses := true, apart := false }
def PredCirclesSaid : Prop := predCirclesRow.holds Tryz.pinned (OpenSpec.ofChange predCirclesSpec)

/-- ITS FALSE NEIGHBOUR: 'it returns false'. Refute it at one input. -/
def predCirclesWrong : ChangeSpec := { name := "predCircles", fn := fun _ => fun
  | [d1, d2, d3] => { results := [.lit (.bool false)], args := [d1, d2, d3] }
  | _ => none }
def PredCirclesWrongFalsely : Prop := predCirclesRow.holds Tryz.pinned (OpenSpec.ofChange predCirclesWrong)

/-- 'orrerylaw14.PredLines': WHATEVER THE INPUT: true; the input reads as it did. -/
def predLinesSpec : ChangeSpec := { name := "predLines", fn := fun _ => fun
  | [d1, d2, d3] => { results := [.lit (.bool true)], args := [d1, d2, d3] }
  | _ => none }
def predLinesRow : OpenClaim := { program := "ytdiladmkbpnhoaagreat", sum := "cee781e8d62a9561e6ed79272c39cfe3408221beb030e57b21bd3756f684966e", func := "orrery/orrerylaw14.PredLines", spec := "predLines", unfollowed := true, recurses := true, apart := false }
def PredLinesSaid : Prop := predLinesRow.holds Tryz.pinned (OpenSpec.ofChange predLinesSpec)

/-- ITS FALSE NEIGHBOUR: 'it returns false'. Refute it at one input. -/
def predLinesWrong : ChangeSpec := { name := "predLines", fn := fun _ => fun
  | [d1, d2, d3] => { results := [.lit (.bool false)], args := [d1, d2, d3] }
  | _ => none }
def PredLinesWrongFalsely : Prop := predLinesRow.holds Tryz.pinned (OpenSpec.ofChange predLinesWrong)

/-- 'orrerylaw14.PredTurned': WHATEVER THE INPUT: true; the input reads as it did. -/
def predTurnedSpec : ChangeSpec := { name := "predTurned", fn := fun _ => fun
  | [d1, d2, d3] => { results := [.lit (.bool true)], args := [d1, d2, d3] }
  | _ => none }
def predTurnedRow : OpenClaim := { program := "ytdiladmkbpnhoaagreat", sum := "cee781e8d62a9561e6ed79272c39cfe3408221beb030e57b21bd3756f684966e", func := "orrery/orrerylaw14.PredTurned", spec := "predTurned", unfollowed := true, recurses := true, apart := false }
def PredTurnedSaid : Prop := predTurnedRow.holds Tryz.pinned (OpenSpec.ofChange predTurnedSpec)

/-- ITS FALSE NEIGHBOUR: 'it returns false'. Refute it at one input. -/
def predTurnedWrong : ChangeSpec := { name := "predTurned", fn := fun _ => fun
  | [d1, d2, d3] => { results := [.lit (.bool false)], args := [d1, d2, d3] }
  | _ => none }
def PredTurnedWrongFalsely : Prop := predTurnedRow.holds Tryz.pinned (OpenSpec.ofChange predTurnedWrong)

/-- 'orrerylaw08.SturmRoots': WHATEVER THE INPUT: true; the input reads as it did. -/
def sturmRootsSpec : ChangeSpec := { name := "sturmRoots", fn := fun _ => fun
  | [d1, d2, d3] => { results := [.lit (.bool true)], args := [d1, d2, d3] }
  | _ => none }
def sturmRootsRow : OpenClaim := { program := "ytdiladmkbpnhoaagreat", sum := "cee781e8d62a9561e6ed79272c39cfe3408221beb030e57b21bd3756f684966e", func := "orrery/orrerylaw08.SturmRoots", spec := "sturmRoots", unfollowed := true, recurses := true, apart := false }
def SturmRootsSaid : Prop := sturmRootsRow.holds Tryz.pinned (OpenSpec.ofChange sturmRootsSpec)

/-- ITS FALSE NEIGHBOUR: 'it returns false'. Refute it at one input. -/
def sturmRootsWrong : ChangeSpec := { name := "sturmRoots", fn := fun _ => fun
  | [d1, d2, d3] => { results := [.lit (.bool false)], args := [d1, d2, d3] }
  | _ => none }
def SturmRootsWrongFalsely : Prop := sturmRootsRow.holds Tryz.pinned (OpenSpec.ofChange sturmRootsWrong)

/-- 'orrerylaw08.SturmAdds': WHATEVER THE INPUT: true; the input reads as it did. -/
def sturmAddsSpec : ChangeSpec := { name := "sturmAdds", fn := fun _ => fun
  | [d1, d2, d3, d4, d5, d6, d7] => { results := [.lit (.bool true)], args := [d1, d2, d3, d4, d5, d6, d7] }
  | _ => none }
def sturmAddsRow : OpenClaim := { program := "ytdiladmkbpnhoaagreat", sum := "cee781e8d62a9561e6ed79272c39cfe3408221beb030e57b21bd3756f684966e", func := "orrery/orrerylaw08.SturmAdds", spec := "sturmAdds", unfollowed := true, recurses := true, apart := false }
def SturmAddsSaid : Prop := sturmAddsRow.holds Tryz.pinned (OpenSpec.ofChange sturmAddsSpec)

/-- ITS FALSE NEIGHBOUR: 'it returns false'. Refute it at one input. -/
def sturmAddsWrong : ChangeSpec := { name := "sturmAdds", fn := fun _ => fun
  | [d1, d2, d3, d4, d5, d6, d7] => { results := [.lit (.bool false)], args := [d1, d2, d3, d4, d5, d6, d7] }
  | _ => none }
def SturmAddsWrongFalsely : Prop := sturmAddsRow.holds Tryz.pinned (OpenSpec.ofChange sturmAddsWrong)

/-- 'orrerylaw08.SturmMirror': WHATEVER THE INPUT: true; the input reads as it did. -/
def sturmMirrorSpec : ChangeSpec := { name := "sturmMirror", fn := fun _ => fun
  | [d1, d2, d3] => { results := [.lit (.bool true)], args := [d1, d2, d3] }
  | _ => none }
def sturmMirrorRow : OpenClaim := { program := "ytdiladmkbpnhoaagreat", sum := "cee781e8d62a9561e6ed79272c39cfe3408221beb030e57b21bd3756f684966e", func := "orrery/orrerylaw08.SturmMirror", spec := "sturmMirror", unfollowed := true, recurses := true, apart := false }
def SturmMirrorSaid : Prop := sturmMirrorRow.holds Tryz.pinned (OpenSpec.ofChange sturmMirrorSpec)

/-- ITS FALSE NEIGHBOUR: 'it returns false'. Refute it at one input. -/
def sturmMirrorWrong : ChangeSpec := { name := "sturmMirror", fn := fun _ => fun
  | [d1, d2, d3] => { results := [.lit (.bool false)], args := [d1, d2, d3] }
  | _ => none }
def SturmMirrorWrongFalsely : Prop := sturmMirrorRow.holds Tryz.pinned (OpenSpec.ofChange sturmMirrorWrong)

/-- 'orrerylaw08.SturmBounds': WHATEVER THE INPUT: true; the input reads as it did. -/
def sturmBoundsSpec : ChangeSpec := { name := "sturmBounds", fn := fun _ => fun
  | [d1, d2] => { results := [.lit (.bool true)], args := [d1, d2] }
  | _ => none }
def sturmBoundsRow : OpenClaim := { program := "ytdiladmkbpnhoaagreat", sum := "cee781e8d62a9561e6ed79272c39cfe3408221beb030e57b21bd3756f684966e", func := "orrery/orrerylaw08.SturmBounds", spec := "sturmBounds", unfollowed := true, recurses := true, apart := false }
def SturmBoundsSaid : Prop := sturmBoundsRow.holds Tryz.pinned (OpenSpec.ofChange sturmBoundsSpec)

/-- ITS FALSE NEIGHBOUR: 'it returns false'. Refute it at one input. -/
def sturmBoundsWrong : ChangeSpec := { name := "sturmBounds", fn := fun _ => fun
  | [d1, d2] => { results := [.lit (.bool false)], args := [d1, d2] }
  | _ => none }
def SturmBoundsWrongFalsely : Prop := sturmBoundsRow.holds Tryz.pinned (OpenSpec.ofChange sturmBoundsWrong)

/-- 'orrerylaw09.IsolateRoots': WHATEVER THE INPUT: true; the input reads as it did. -/
def isolateRootsSpec : ChangeSpec := { name := "isolateRoots", fn := fun _ => fun
  | [d] => { results := [.lit (.bool true)], args := [d] }
  | _ => none }
def isolateRootsRow : OpenClaim := { program := "ytdiladmkbpnhoaagreat", sum := "cee781e8d62a9561e6ed79272c39cfe3408221beb030e57b21bd3756f684966e", func := "orrery/orrerylaw09.IsolateRoots", spec := "isolateRoots", unfollowed := true, recurses := true, apart := false }
def IsolateRootsSaid : Prop := isolateRootsRow.holds Tryz.pinned (OpenSpec.ofChange isolateRootsSpec)

/-- ITS FALSE NEIGHBOUR: 'it returns false'. Refute it at one input. -/
def isolateRootsWrong : ChangeSpec := { name := "isolateRoots", fn := fun _ => fun
  | [d] => { results := [.lit (.bool false)], args := [d] }
  | _ => none }
def IsolateRootsWrongFalsely : Prop := isolateRootsRow.holds Tryz.pinned (OpenSpec.ofChange isolateRootsWrong)

/-- 'orrerylaw09.IsolateRaw': WHATEVER THE INPUT: true; the input reads as it did. -/
def isolateRawSpec : ChangeSpec := { name := "isolateRaw", fn := fun _ => fun
  | [d] => { results := [.lit (.bool true)], args := [d] }
  | _ => none }
def isolateRawRow : OpenClaim := { program := "ytdiladmkbpnhoaagreat", sum := "cee781e8d62a9561e6ed79272c39cfe3408221beb030e57b21bd3756f684966e", func := "orrery/orrerylaw09.IsolateRaw", spec := "isolateRaw", unfollowed := true, recurses := true, apart := false }
def IsolateRawSaid : Prop := isolateRawRow.holds Tryz.pinned (OpenSpec.ofChange isolateRawSpec)

/-- ITS FALSE NEIGHBOUR: 'it returns false'. Refute it at one input. -/
def isolateRawWrong : ChangeSpec := { name := "isolateRaw", fn := fun _ => fun
  | [d] => { results := [.lit (.bool false)], args := [d] }
  | _ => none }
def IsolateRawWrongFalsely : Prop := isolateRawRow.holds Tryz.pinned (OpenSpec.ofChange isolateRawWrong)

/-- 'orrerylaw09.IsolateValids': WHATEVER THE INPUT: true; the input reads as it did. -/
def isolateValidsSpec : ChangeSpec := { name := "isolateValids", fn := fun _ => fun
  | [d1, d2, d3, d4, d5, d6] => { results := [.lit (.bool true)], args := [d1, d2, d3, d4, d5, d6] }
  | _ => none }
def isolateValidsRow : OpenClaim := { program := "ytdiladmkbpnhoaagreat", sum := "cee781e8d62a9561e6ed79272c39cfe3408221beb030e57b21bd3756f684966e", func := "orrery/orrerylaw09.IsolateValids", spec := "isolateValids", unfollowed := true, recurses := true, apart := false }
def IsolateValidsSaid : Prop := isolateValidsRow.holds Tryz.pinned (OpenSpec.ofChange isolateValidsSpec)

/-- ITS FALSE NEIGHBOUR: 'it returns false'. Refute it at one input. -/
def isolateValidsWrong : ChangeSpec := { name := "isolateValids", fn := fun _ => fun
  | [d1, d2, d3, d4, d5, d6] => { results := [.lit (.bool false)], args := [d1, d2, d3, d4, d5, d6] }
  | _ => none }
def IsolateValidsWrongFalsely : Prop := isolateValidsRow.holds Tryz.pinned (OpenSpec.ofChange isolateValidsWrong)

/-- 'orrerylaw09.IsolateProducts': WHATEVER THE INPUT: true; the input reads as it did. -/
def isolateProductsSpec : ChangeSpec := { name := "isolateProducts", fn := fun _ => fun
  | [d1, d2] => { results := [.lit (.bool true)], args := [d1, d2] }
  | _ => none }
def isolateProductsRow : OpenClaim := { program := "ytdiladmkbpnhoaagreat", sum := "cee781e8d62a9561e6ed79272c39cfe3408221beb030e57b21bd3756f684966e", func := "orrery/orrerylaw09.IsolateProducts", spec := "isolateProducts", unfollowed := true, recurses := true, apart := false }
def IsolateProductsSaid : Prop := isolateProductsRow.holds Tryz.pinned (OpenSpec.ofChange isolateProductsSpec)

/-- ITS FALSE NEIGHBOUR: 'it returns false'. Refute it at one input. -/
def isolateProductsWrong : ChangeSpec := { name := "isolateProducts", fn := fun _ => fun
  | [d1, d2] => { results := [.lit (.bool false)], args := [d1, d2] }
  | _ => none }
def IsolateProductsWrongFalsely : Prop := isolateProductsRow.holds Tryz.pinned (OpenSpec.ofChange isolateProductsWrong)

/-- 'orrerylaw09.IsolateFirsts': WHATEVER THE INPUT: true; the input reads as it did. -/
def isolateFirstsSpec : ChangeSpec := { name := "isolateFirsts", fn := fun _ => fun
  | [d1, d2, d3, d4, d5] => { results := [.lit (.bool true)], args := [d1, d2, d3, d4, d5] }
  | _ => none }
def isolateFirstsRow : OpenClaim := { program := "ytdiladmkbpnhoaagreat", sum := "cee781e8d62a9561e6ed79272c39cfe3408221beb030e57b21bd3756f684966e", func := "orrery/orrerylaw09.IsolateFirsts", spec := "isolateFirsts", unfollowed := true, recurses := true, apart := false }
def IsolateFirstsSaid : Prop := isolateFirstsRow.holds Tryz.pinned (OpenSpec.ofChange isolateFirstsSpec)

/-- ITS FALSE NEIGHBOUR: 'it returns false'. Refute it at one input. -/
def isolateFirstsWrong : ChangeSpec := { name := "isolateFirsts", fn := fun _ => fun
  | [d1, d2, d3, d4, d5] => { results := [.lit (.bool false)], args := [d1, d2, d3, d4, d5] }
  | _ => none }
def IsolateFirstsWrongFalsely : Prop := isolateFirstsRow.holds Tryz.pinned (OpenSpec.ofChange isolateFirstsWrong)

/-- 'orrerylaw09.IsolateKnown': WHATEVER THE INPUT: true; the input reads as it did. -/
def isolateKnownSpec : ChangeSpec := { name := "isolateKnown", fn := fun _ => fun
  | [d] => { results := [.lit (.bool true)], args := [d] }
  | _ => none }
def isolateKnownRow : OpenClaim := { program := "ytdiladmkbpnhoaagreat", sum := "cee781e8d62a9561e6ed79272c39cfe3408221beb030e57b21bd3756f684966e", func := "orrery/orrerylaw09.IsolateKnown", spec := "isolateKnown", unfollowed := true, recurses := true, apart := false }
def IsolateKnownSaid : Prop := isolateKnownRow.holds Tryz.pinned (OpenSpec.ofChange isolateKnownSpec)

/-- ITS FALSE NEIGHBOUR: 'it returns false'. Refute it at one input. -/
def isolateKnownWrong : ChangeSpec := { name := "isolateKnown", fn := fun _ => fun
  | [d] => { results := [.lit (.bool false)], args := [d] }
  | _ => none }
def IsolateKnownWrongFalsely : Prop := isolateKnownRow.holds Tryz.pinned (OpenSpec.ofChange isolateKnownWrong)

/- THE SECOND FORM. 'bulk': how many values and letters a reading holds, each counted each time it is reached (what is shared counts as often as it is met; a slice's spare places count too). A statement '..UptoSaid' is the law's where the arguments, and the package variables that the reading takes, are together of bulk at most 1048576: NARROWER than '..Said'. Prove '..Said' where nothing that the law and all that it calls make is longer than what came in: it says more and counts as full. Else prove '..UptoSaid'. A law counts once. -/
mutual
def uptoBulk {H : Type} : DataW H → Nat
  | .lit (.string bytes) => bytes.length + 1
  | .lit _ => 1
  | .nil => 1
  | .ptr d => uptoBulk d + 1
  | .slice elems spare => uptoBulkAll elems + uptoBulkAll spare + 1
  | .agg parts => uptoBulkAll parts + 1
  | .iface _ d => uptoBulk d + 1
  | .map entries => uptoBulkEntries entries + 1
  | .held _ => 1
def uptoBulkAll {H : Type} : List (DataW H) → Nat
  | [] => 0
  | d :: r => uptoBulk d + uptoBulkAll r
def uptoBulkEntries {H : Type} : List (Lit × DataW H) → Nat
  | [] => 0
  | x :: r => uptoBulkEntry x + uptoBulkEntries r
def uptoBulkEntry {H : Type} : Lit × DataW H → Nat
  | (.string bytes, d) => bytes.length + uptoBulk d + 1
  | (_, d) => uptoBulk d + 1
 end
def uptoSmall : (H : Type) → List (DataW H) → Bool := fun _ ds => decide (uptoBulkAll ds ≤ 1048576)
def OpenSpec.upto (s : _root_.Go.ChangeSpec) : _root_.Go.OpenSpec := { _root_.Go.OpenSpec.ofChange s with cond := some uptoSmall }

/-- 'orrerylaw14.PredCircles', WHERE WHAT IT READS IS OF BULK AT MOST 1048576: true; the input reads as it did. -/
def predCirclesUptoRow : OpenClaim := { program := "ytdiladmkbpnhoaagreat", sum := "cee781e8d62a9561e6ed79272c39cfe3408221beb030e57b21bd3756f684966e", func := "orrery/orrerylaw14.PredCircles", spec := "predCircles", unfollowed := true, recurses := true, apart := false, narrowed := true }
def PredCirclesUptoSaid : Prop := predCirclesUptoRow.holds Tryz.pinned (OpenSpec.upto predCirclesSpec)

/-- 'orrerylaw14.PredLines', WHERE WHAT IT READS IS OF BULK AT MOST 1048576: true; the input reads as it did. -/
def predLinesUptoRow : OpenClaim := { program := "ytdiladmkbpnhoaagreat", sum := "cee781e8d62a9561e6ed79272c39cfe3408221beb030e57b21bd3756f684966e", func := "orrery/orrerylaw14.PredLines", spec := "predLines", unfollowed := true, recurses := true, apart := false, narrowed := true }
def PredLinesUptoSaid : Prop := predLinesUptoRow.holds Tryz.pinned (OpenSpec.upto predLinesSpec)

/-- 'orrerylaw14.PredTurned', WHERE WHAT IT READS IS OF BULK AT MOST 1048576: true; the input reads as it did. -/
def predTurnedUptoRow : OpenClaim := { program := "ytdiladmkbpnhoaagreat", sum := "cee781e8d62a9561e6ed79272c39cfe3408221beb030e57b21bd3756f684966e", func := "orrery/orrerylaw14.PredTurned", spec := "predTurned", unfollowed := true, recurses := true, apart := false, narrowed := true }
def PredTurnedUptoSaid : Prop := predTurnedUptoRow.holds Tryz.pinned (OpenSpec.upto predTurnedSpec)

/-- 'orrerylaw08.SturmRoots', WHERE WHAT IT READS IS OF BULK AT MOST 1048576: true; the input reads as it did. -/
def sturmRootsUptoRow : OpenClaim := { program := "ytdiladmkbpnhoaagreat", sum := "cee781e8d62a9561e6ed79272c39cfe3408221beb030e57b21bd3756f684966e", func := "orrery/orrerylaw08.SturmRoots", spec := "sturmRoots", unfollowed := true, recurses := true, apart := false, narrowed := true }
def SturmRootsUptoSaid : Prop := sturmRootsUptoRow.holds Tryz.pinned (OpenSpec.upto sturmRootsSpec)

/-- 'orrerylaw08.SturmAdds', WHERE WHAT IT READS IS OF BULK AT MOST 1048576: true; the input reads as it did. -/
def sturmAddsUptoRow : OpenClaim := { program := "ytdiladmkbpnhoaagreat", sum := "cee781e8d62a9561e6ed79272c39cfe3408221beb030e57b21bd3756f684966e", func := "orrery/orrerylaw08.SturmAdds", spec := "sturmAdds", unfollowed := true, recurses := true, apart := false, narrowed := true }
def SturmAddsUptoSaid : Prop := sturmAddsUptoRow.holds Tryz.pinned (OpenSpec.upto sturmAddsSpec)

/-- 'orrerylaw08.SturmMirror', WHERE WHAT IT READS IS OF BULK AT MOST 1048576: true; the input reads as it did. -/
def sturmMirrorUptoRow : OpenClaim := { program := "ytdiladmkbpnhoaagreat", sum := "cee781e8d62a9561e6ed79272c39cfe3408221beb030e57b21bd3756f684966e", func := "orrery/orrerylaw08.SturmMirror", spec := "sturmMirror", unfollowed := true, recurses := true, apart := false, narrowed := true }
def SturmMirrorUptoSaid : Prop := sturmMirrorUptoRow.holds Tryz.pinned (OpenSpec.upto sturmMirrorSpec)

/-- 'orrerylaw08.SturmBounds', WHERE WHAT IT READS IS OF BULK AT MOST 1048576: true; the input reads as it did. -/
def sturmBoundsUptoRow : OpenClaim := { program := "ytdiladmkbpnhoaagreat", sum := "cee781e8d62a9561e6ed79272c39cfe3408221beb030e57b21bd3756f684966e", func := "orrery/orrerylaw08.SturmBounds", spec := "sturmBounds", unfollowed := true, recurses := true, apart := false, narrowed := true }
def SturmBoundsUptoSaid : Prop := sturmBoundsUptoRow.holds Tryz.pinned (OpenSpec.upto sturmBoundsSpec)

/-- 'orrerylaw09.IsolateRoots', WHERE WHAT IT READS IS OF BULK AT MOST 1048576: true; the input reads as it did. -/
def isolateRootsUptoRow : OpenClaim := { program := "ytdiladmkbpnhoaagreat", sum := "cee781e8d62a9561e6ed79272c39cfe3408221beb030e57b21bd3756f684966e", func := "orrery/orrerylaw09.IsolateRoots", spec := "isolateRoots", unfollowed := true, recurses := true, apart := false, narrowed := true }
def IsolateRootsUptoSaid : Prop := isolateRootsUptoRow.holds Tryz.pinned (OpenSpec.upto isolateRootsSpec)

/-- 'orrerylaw09.IsolateRaw', WHERE WHAT IT READS IS OF BULK AT MOST 1048576: true; the input reads as it did. -/
def isolateRawUptoRow : OpenClaim := { program := "ytdiladmkbpnhoaagreat", sum := "cee781e8d62a9561e6ed79272c39cfe3408221beb030e57b21bd3756f684966e", func := "orrery/orrerylaw09.IsolateRaw", spec := "isolateRaw", unfollowed := true, recurses := true, apart := false, narrowed := true }
def IsolateRawUptoSaid : Prop := isolateRawUptoRow.holds Tryz.pinned (OpenSpec.upto isolateRawSpec)

/-- 'orrerylaw09.IsolateValids', WHERE WHAT IT READS IS OF BULK AT MOST 1048576: true; the input reads as it did. -/
def isolateValidsUptoRow : OpenClaim := { program := "ytdiladmkbpnhoaagreat", sum := "cee781e8d62a9561e6ed79272c39cfe3408221beb030e57b21bd3756f684966e", func := "orrery/orrerylaw09.IsolateValids", spec := "isolateValids", unfollowed := true, recurses := true, apart := false, narrowed := true }
def IsolateValidsUptoSaid : Prop := isolateValidsUptoRow.holds Tryz.pinned (OpenSpec.upto isolateValidsSpec)

/-- 'orrerylaw09.IsolateProducts', WHERE WHAT IT READS IS OF BULK AT MOST 1048576: true; the input reads as it did. -/
def isolateProductsUptoRow : OpenClaim := { program := "ytdiladmkbpnhoaagreat", sum := "cee781e8d62a9561e6ed79272c39cfe3408221beb030e57b21bd3756f684966e", func := "orrery/orrerylaw09.IsolateProducts", spec := "isolateProducts", unfollowed := true, recurses := true, apart := false, narrowed := true }
def IsolateProductsUptoSaid : Prop := isolateProductsUptoRow.holds Tryz.pinned (OpenSpec.upto isolateProductsSpec)

/-- 'orrerylaw09.IsolateFirsts', WHERE WHAT IT READS IS OF BULK AT MOST 1048576: true; the input reads as it did. -/
def isolateFirstsUptoRow : OpenClaim := { program := "ytdiladmkbpnhoaagreat", sum := "cee781e8d62a9561e6ed79272c39cfe3408221beb030e57b21bd3756f684966e", func := "orrery/orrerylaw09.IsolateFirsts", spec := "isolateFirsts", unfollowed := true, recurses := true, apart := false, narrowed := true }
def IsolateFirstsUptoSaid : Prop := isolateFirstsUptoRow.holds Tryz.pinned (OpenSpec.upto isolateFirstsSpec)

/-- 'orrerylaw09.IsolateKnown', WHERE WHAT IT READS IS OF BULK AT MOST 1048576: true; the input reads as it did. -/
def isolateKnownUptoRow : OpenClaim := { program := "ytdiladmkbpnhoaagreat", sum := "cee781e8d62a9561e6ed79272c39cfe3408221beb030e57b21bd3756f684966e", func := "orrery/orrerylaw09.IsolateKnown", spec := "isolateKnown", unfollowed := true, recurses := true, apart := false, narrowed := true }
def IsolateKnownUptoSaid : Prop := isolateKnownUptoRow.holds Tryz.pinned (OpenSpec.upto isolateKnownSpec)

end Rows
end Go.Proofs.YtdiladmkbpnhoaaGreat
