/-
  No cell of these rows narrows 'for every input' (looked for: loops, veiled, ifaces, maps, wideKeys, modest, calm, conditions, laid).
  DERIVED. THE GIVEN ROWS OF THIS SEAT. 8 by the template 'for every input the law returns true; each argument reads behind the call as it read before'; 0 by the template 'total and deterministic' (their statements: YtiobceocpabjdaaGreatTotals.lean).
  GIVEN WITH THE SEED: the statements are not yours to turn. If you find one false, say at which input.
  Laid BY PROGRAM, IN A SANDBOX (cutbox-rows.mjs): the forced cells as the released guide's own fill.sh prints them over the translation bcd3002fe4b39edd… (all of the seat's roots in one cut). By AI agents, Wed Nov 11 2026. No macro, syntax, notation, axiom, sorry.
-/
import Derived.Test.YtiobceocpabjdaaGreatChecked
import GoSem.Claim
import GoSem.ClaimJoined
import GoSem.ClaimMapViews
import Derived.JoinedTies
import Derived.KernelRfl
namespace Go.Proofs.YtiobceocpabjdaaGreat
/- THE CELL 'sum', in the pinned program and in every row, IS THE sha256 OF THE DUMP (.gsa) THAT YtiobceocpabjdaaGreatProg.lean LOADS. Nothing in Lean hashes anything: it is a label: what it is worth is what the hold of that sum in a sandbox is worth. -/
noncomputable def Tryz.pinned : Pinned := { name := "ytiobceocpabjdaagreat", sum := "bcd3002fe4b39eddd16b8d256b7fe81a1d9e9c21fa6ead2400944be556e062e4", checked := Tryz.checked }
namespace Rows
def none {H : Type} : Left H := { results := [], args := [] }

/-- 'orrerylaw09.IsolateKnown': WHATEVER THE INPUT: true; the input reads as it did. -/
def isolateKnownSpec : ChangeSpec := { name := "isolateKnown", fn := fun _ => fun
  | [d] => { results := [.lit (.bool true)], args := [d] }
  | _ => none }
def isolateKnownRow : OpenClaim := { program := "ytiobceocpabjdaagreat", sum := "bcd3002fe4b39eddd16b8d256b7fe81a1d9e9c21fa6ead2400944be556e062e4", func := "orrery/orrerylaw09.IsolateKnown", spec := "isolateKnown", unfollowed := true, recurses := true, apart := false }
def IsolateKnownSaid : Prop := isolateKnownRow.holds Tryz.pinned (OpenSpec.ofChange isolateKnownSpec)

/-- ITS FALSE NEIGHBOUR: 'it returns false'. Refute it at one input. -/
def isolateKnownWrong : ChangeSpec := { name := "isolateKnown", fn := fun _ => fun
  | [d] => { results := [.lit (.bool false)], args := [d] }
  | _ => none }
def IsolateKnownWrongFalsely : Prop := isolateKnownRow.holds Tryz.pinned (OpenSpec.ofChange isolateKnownWrong)

/-- 'orrerylaw14.PredTotal': WHATEVER THE INPUT: true; the input reads as it did. -/
def predTotalSpec : ChangeSpec := { name := "predTotal", fn := fun _ => fun
  | [d1, d2, d3] => { results := [.lit (.bool true)], args := [d1, d2, d3] }
  | _ => none }
def predTotalRow : OpenClaim := { program := "ytiobceocpabjdaagreat", sum := "bcd3002fe4b39eddd16b8d256b7fe81a1d9e9c21fa6ead2400944be556e062e4", func := "orrery/orrerylaw14.PredTotal", spec := "predTotal", unfollowed := true, recurses := true, apart := false }
def PredTotalSaid : Prop := predTotalRow.holds Tryz.pinned (OpenSpec.ofChange predTotalSpec)

/-- ITS FALSE NEIGHBOUR: 'it returns false'. Refute it at one input. -/
def predTotalWrong : ChangeSpec := { name := "predTotal", fn := fun _ => fun
  | [d1, d2, d3] => { results := [.lit (.bool false)], args := [d1, d2, d3] }
  | _ => none }
def PredTotalWrongFalsely : Prop := predTotalRow.holds Tryz.pinned (OpenSpec.ofChange predTotalWrong)

/-- 'orrerylaw15.CertSorts': WHATEVER THE INPUT: true; the input reads as it did. -/
def certSortsSpec : ChangeSpec := { name := "certSorts", fn := fun _ => fun
  | [d1, d2, d3] => { results := [.lit (.bool true)], args := [d1, d2, d3] }
  | _ => none }
def certSortsRow : OpenClaim := { program := "ytiobceocpabjdaagreat", sum := "bcd3002fe4b39eddd16b8d256b7fe81a1d9e9c21fa6ead2400944be556e062e4", func := "orrery/orrerylaw15.CertSorts", spec := "certSorts", unfollowed := true, recurses := true, apart := false }
def CertSortsSaid : Prop := certSortsRow.holds Tryz.pinned (OpenSpec.ofChange certSortsSpec)

/-- ITS FALSE NEIGHBOUR: 'it returns false'. Refute it at one input. -/
def certSortsWrong : ChangeSpec := { name := "certSorts", fn := fun _ => fun
  | [d1, d2, d3] => { results := [.lit (.bool false)], args := [d1, d2, d3] }
  | _ => none }
def CertSortsWrongFalsely : Prop := certSortsRow.holds Tryz.pinned (OpenSpec.ofChange certSortsWrong)

/-- 'orrerylaw17.KinOne': WHATEVER THE INPUT: true; the input reads as it did. -/
def kinOneSpec : ChangeSpec := { name := "kinOne", fn := fun _ => fun
  | [d1, d2, d3, d4, d5] => { results := [.lit (.bool true)], args := [d1, d2, d3, d4, d5] }
  | _ => none }
def kinOneRow : OpenClaim := { program := "ytiobceocpabjdaagreat", sum := "bcd3002fe4b39eddd16b8d256b7fe81a1d9e9c21fa6ead2400944be556e062e4", func := "orrery/orrerylaw17.KinOne", spec := "kinOne", unfollowed := true, recurses := true, apart := false }
def KinOneSaid : Prop := kinOneRow.holds Tryz.pinned (OpenSpec.ofChange kinOneSpec)

/-- ITS FALSE NEIGHBOUR: 'it returns false'. Refute it at one input. -/
def kinOneWrong : ChangeSpec := { name := "kinOne", fn := fun _ => fun
  | [d1, d2, d3, d4, d5] => { results := [.lit (.bool false)], args := [d1, d2, d3, d4, d5] }
  | _ => none }
def KinOneWrongFalsely : Prop := kinOneRow.holds Tryz.pinned (OpenSpec.ofChange kinOneWrong)

/-- 'orrerylaw17.KinNexts': WHATEVER THE INPUT: true; the input reads as it did. -/
def kinNextsSpec : ChangeSpec := { name := "kinNexts", fn := fun _ => fun
  | [d1, d2, d3] => { results := [.lit (.bool true)], args := [d1, d2, d3] }
  | _ => none }
def kinNextsRow : OpenClaim := { program := "ytiobceocpabjdaagreat", sum := "bcd3002fe4b39eddd16b8d256b7fe81a1d9e9c21fa6ead2400944be556e062e4", func := "orrery/orrerylaw17.KinNexts", spec := "kinNexts", unfollowed := true, recurses := true, apart := false }
def KinNextsSaid : Prop := kinNextsRow.holds Tryz.pinned (OpenSpec.ofChange kinNextsSpec)

/-- ITS FALSE NEIGHBOUR: 'it returns false'. Refute it at one input. -/
def kinNextsWrong : ChangeSpec := { name := "kinNexts", fn := fun _ => fun
  | [d1, d2, d3] => { results := [.lit (.bool false)], args := [d1, d2, d3] }
  | _ => none }
def KinNextsWrongFalsely : Prop := kinNextsRow.holds Tryz.pinned (OpenSpec.ofChange kinNextsWrong)

/-- 'orrerylaw17.KinGoes': WHATEVER THE INPUT: true; the input reads as it did. -/
def kinGoesSpec : ChangeSpec := { name := "kinGoes", fn := fun _ => fun
  | [d1, d2, d3, d4, d5] => { results := [.lit (.bool true)], args := [d1, d2, d3, d4, d5] }
  | _ => none }
def kinGoesRow : OpenClaim := { program := "ytiobceocpabjdaagreat", sum := "bcd3002fe4b39eddd16b8d256b7fe81a1d9e9c21fa6ead2400944be556e062e4", func := "orrery/orrerylaw17.KinGoes", spec := "kinGoes", unfollowed := true, recurses := true, apart := false }
def KinGoesSaid : Prop := kinGoesRow.holds Tryz.pinned (OpenSpec.ofChange kinGoesSpec)

/-- ITS FALSE NEIGHBOUR: 'it returns false'. Refute it at one input. -/
def kinGoesWrong : ChangeSpec := { name := "kinGoes", fn := fun _ => fun
  | [d1, d2, d3, d4, d5] => { results := [.lit (.bool false)], args := [d1, d2, d3, d4, d5] }
  | _ => none }
def KinGoesWrongFalsely : Prop := kinGoesRow.holds Tryz.pinned (OpenSpec.ofChange kinGoesWrong)

/-- 'orrerylaw17.KinSplits': WHATEVER THE INPUT: true; the input reads as it did. -/
def kinSplitsSpec : ChangeSpec := { name := "kinSplits", fn := fun _ => fun
  | [d1, d2] => { results := [.lit (.bool true)], args := [d1, d2] }
  | _ => none }
def kinSplitsRow : OpenClaim := { program := "ytiobceocpabjdaagreat", sum := "bcd3002fe4b39eddd16b8d256b7fe81a1d9e9c21fa6ead2400944be556e062e4", func := "orrery/orrerylaw17.KinSplits", spec := "kinSplits", unfollowed := true, recurses := true, apart := false }
def KinSplitsSaid : Prop := kinSplitsRow.holds Tryz.pinned (OpenSpec.ofChange kinSplitsSpec)

/-- ITS FALSE NEIGHBOUR: 'it returns false'. Refute it at one input. -/
def kinSplitsWrong : ChangeSpec := { name := "kinSplits", fn := fun _ => fun
  | [d1, d2] => { results := [.lit (.bool false)], args := [d1, d2] }
  | _ => none }
def KinSplitsWrongFalsely : Prop := kinSplitsRow.holds Tryz.pinned (OpenSpec.ofChange kinSplitsWrong)

/-- 'orrerylaw17.KinZero': WHATEVER THE INPUT: true; the input reads as it did. -/
def kinZeroSpec : ChangeSpec := { name := "kinZero", fn := fun _ => fun
  | [d1, d2] => { results := [.lit (.bool true)], args := [d1, d2] }
  | _ => none }
def kinZeroRow : OpenClaim := { program := "ytiobceocpabjdaagreat", sum := "bcd3002fe4b39eddd16b8d256b7fe81a1d9e9c21fa6ead2400944be556e062e4", func := "orrery/orrerylaw17.KinZero", spec := "kinZero", unfollowed := true, recurses := true, apart := false }
def KinZeroSaid : Prop := kinZeroRow.holds Tryz.pinned (OpenSpec.ofChange kinZeroSpec)

/-- ITS FALSE NEIGHBOUR: 'it returns false'. Refute it at one input. -/
def kinZeroWrong : ChangeSpec := { name := "kinZero", fn := fun _ => fun
  | [d1, d2] => { results := [.lit (.bool false)], args := [d1, d2] }
  | _ => none }
def KinZeroWrongFalsely : Prop := kinZeroRow.holds Tryz.pinned (OpenSpec.ofChange kinZeroWrong)

/- THE SECOND FORM. 'bulk': how many values and letters a reading holds, each counted each time it is reached (what is shared counts as often as it is met; a slice's spare places count too). A statement '..UptoSaid' is the law's where the arguments, and the package variables that the reading takes, are together of bulk at most 1048576: NARROWER than '..Said'. Prove '..Said' where nothing that the law and all that it calls make is longer than what came in: it says more and counts as full. Else prove '..UptoSaid'. A law counts once. -/
mutual
def uptoBulk {H : Type} : DataW H → Nat
  | .lit (.string bytes) => bytes.length + 1
  | .lit _ => 1
  | .nil => 1
  | .ptr d => uptoBulk d + 1
  | .slice elems spare => uptoBulkAll elems + uptoBulkAll spare + 1
  | .agg parts => uptoBulkAll parts + 1
  | .iface _ d => uptoBulk d + 1
  | .map entries => uptoBulkEntries entries + 1
  | .held _ => 1
def uptoBulkAll {H : Type} : List (DataW H) → Nat
  | [] => 0
  | d :: r => uptoBulk d + uptoBulkAll r
def uptoBulkEntries {H : Type} : List (Lit × DataW H) → Nat
  | [] => 0
  | x :: r => uptoBulkEntry x + uptoBulkEntries r
def uptoBulkEntry {H : Type} : Lit × DataW H → Nat
  | (.string bytes, d) => bytes.length + uptoBulk d + 1
  | (_, d) => uptoBulk d + 1
 end
def uptoSmall : (H : Type) → List (DataW H) → Bool := fun _ ds => decide (uptoBulkAll ds ≤ 1048576)
def OpenSpec.upto (s : _root_.Go.ChangeSpec) : _root_.Go.OpenSpec := { _root_.Go.OpenSpec.ofChange s with cond := some uptoSmall }

/-- 'orrerylaw09.IsolateKnown', WHERE WHAT IT READS IS OF BULK AT MOST 1048576: true; the input reads as it did. -/
def isolateKnownUptoRow : OpenClaim := { program := "ytiobceocpabjdaagreat", sum := "bcd3002fe4b39eddd16b8d256b7fe81a1d9e9c21fa6ead2400944be556e062e4", func := "orrery/orrerylaw09.IsolateKnown", spec := "isolateKnown", unfollowed := true, recurses := true, apart := false, narrowed := true }
def IsolateKnownUptoSaid : Prop := isolateKnownUptoRow.holds Tryz.pinned (OpenSpec.upto isolateKnownSpec)

/-- 'orrerylaw14.PredTotal', WHERE WHAT IT READS IS OF BULK AT MOST 1048576: true; the input reads as it did. -/
def predTotalUptoRow : OpenClaim := { program := "ytiobceocpabjdaagreat", sum := "bcd3002fe4b39eddd16b8d256b7fe81a1d9e9c21fa6ead2400944be556e062e4", func := "orrery/orrerylaw14.PredTotal", spec := "predTotal", unfollowed := true, recurses := true, apart := false, narrowed := true }
def PredTotalUptoSaid : Prop := predTotalUptoRow.holds Tryz.pinned (OpenSpec.upto predTotalSpec)

/-- 'orrerylaw15.CertSorts', WHERE WHAT IT READS IS OF BULK AT MOST 1048576: true; the input reads as it did. -/
def certSortsUptoRow : OpenClaim := { program := "ytiobceocpabjdaagreat", sum := "bcd3002fe4b39eddd16b8d256b7fe81a1d9e9c21fa6ead2400944be556e062e4", func := "orrery/orrerylaw15.CertSorts", spec := "certSorts", unfollowed := true, recurses := true, apart := false, narrowed := true }
def CertSortsUptoSaid : Prop := certSortsUptoRow.holds Tryz.pinned (OpenSpec.upto certSortsSpec)

/-- 'orrerylaw17.KinOne', WHERE WHAT IT READS IS OF BULK AT MOST 1048576: true; the input reads as it did. -/
def kinOneUptoRow : OpenClaim := { program := "ytiobceocpabjdaagreat", sum := "bcd3002fe4b39eddd16b8d256b7fe81a1d9e9c21fa6ead2400944be556e062e4", func := "orrery/orrerylaw17.KinOne", spec := "kinOne", unfollowed := true, recurses := true, apart := false, narrowed := true }
def KinOneUptoSaid : Prop := kinOneUptoRow.holds Tryz.pinned (OpenSpec.upto kinOneSpec)

/-- 'orrerylaw17.KinNexts', WHERE WHAT IT READS IS OF BULK AT MOST 1048576: true; the input reads as it did. -/
def kinNextsUptoRow : OpenClaim := { program := "ytiobceocpabjdaagreat", sum := "bcd3002fe4b39eddd16b8d256b7fe81a1d9e9c21fa6ead2400944be556e062e4", func := "orrery/orrerylaw17.KinNexts", spec := "kinNexts", unfollowed := true, recurses := true, apart := false, narrowed := true }
def KinNextsUptoSaid : Prop := kinNextsUptoRow.holds Tryz.pinned (OpenSpec.upto kinNextsSpec)

/-- 'orrerylaw17.KinGoes', WHERE WHAT IT READS IS OF BULK AT MOST 1048576: true; the input reads as it did. -/
def kinGoesUptoRow : OpenClaim := { program := "ytiobceocpabjdaagreat", sum := "bcd3002fe4b39eddd16b8d256b7fe81a1d9e9c21fa6ead2400944be556e062e4", func := "orrery/orrerylaw17.KinGoes", spec := "kinGoes", unfollowed := true, recurses := true, apart := false, narrowed := true }
def KinGoesUptoSaid : Prop := kinGoesUptoRow.holds Tryz.pinned (OpenSpec.upto kinGoesSpec)

/-- 'orrerylaw17.KinSplits', WHERE WHAT IT READS IS OF BULK AT MOST 1048576: true; the input reads as it did. -/
def kinSplitsUptoRow : OpenClaim := { program := "ytiobceocpabjdaagreat", sum := "bcd3002fe4b39eddd16b8d256b7fe81a1d9e9c21fa6ead2400944be556e062e4", func := "orrery/orrerylaw17.KinSplits", spec := "kinSplits", unfollowed := true, recurses := true, apart := false, narrowed := true }
def KinSplitsUptoSaid : Prop := kinSplitsUptoRow.holds Tryz.pinned (OpenSpec.upto kinSplitsSpec)

/-- 'orrerylaw17.KinZero', WHERE WHAT IT READS IS OF BULK AT MOST 1048576: true; the input reads as it did. -/
def kinZeroUptoRow : OpenClaim := { program := "ytiobceocpabjdaagreat", sum := "bcd3002fe4b39eddd16b8d256b7fe81a1d9e9c21fa6ead2400944be556e062e4", func := "orrery/orrerylaw17.KinZero", spec := "kinZero", unfollowed := true, recurses := true, apart := false, narrowed := true }
def KinZeroUptoSaid : Prop := kinZeroUptoRow.holds Tryz.pinned (OpenSpec.upto kinZeroSpec)

end Rows
end Go.Proofs.YtiobceocpabjdaaGreat
