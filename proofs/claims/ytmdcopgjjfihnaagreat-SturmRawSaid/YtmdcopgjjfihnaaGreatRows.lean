/-
  No cell of these rows narrows 'for every input' (looked for: loops, veiled, ifaces, maps, wideKeys, modest, calm, conditions, laid).
  DERIVED. THE GIVEN ROWS OF THIS SEAT. 11 by the template 'for every input the law returns true; each argument reads behind the call as it read before'; 0 by the template 'total and deterministic' (their statements: YtmdcopgjjfihnaaGreatTotals.lean).
  GIVEN WITH THE SEED: the statements are not yours to turn. If you find one false, say at which input.
  Laid BY PROGRAM, IN A SANDBOX (cutbox-rows.mjs): the forced cells as the released guide's own fill.sh prints them over the translation 5bf1ccc6b239a324… (all of the seat's roots in one cut). By AI agents, Wed Nov 11 2026. No macro, syntax, notation, axiom, sorry.
-/
import Derived.Test.YtmdcopgjjfihnaaGreatChecked
import GoSem.Claim
import GoSem.ClaimJoined
import GoSem.ClaimMapViews
import Derived.JoinedTies
import Derived.KernelRfl
namespace Go.Proofs.YtmdcopgjjfihnaaGreat
/- THE CELL 'sum', in the pinned program and in every row, IS THE sha256 OF THE DUMP (.gsa) THAT YtmdcopgjjfihnaaGreatProg.lean LOADS. Nothing in Lean hashes anything: it is a label: what it is worth is what the hold of that sum in a sandbox is worth. -/
noncomputable def Tryz.pinned : Pinned := { name := "ytmdcopgjjfihnaagreat", sum := "5bf1ccc6b239a3243acade0c01b34adc925efc17fe8bf2e391b6e41d1e5f140d", checked := Tryz.checked }
namespace Rows
def none {H : Type} : Left H := { results := [], args := [] }

/-- 'orrerylaw14.PredCircles': WHATEVER THE INPUT: true; the input reads as it did. -/
def predCirclesSpec : ChangeSpec := { name := "predCircles", fn := fun _ => fun
  | [d1, d2, d3] => { results := [.lit (.bool true)], args := [d1, d2, d3] }
  | _ => none }
def predCirclesRow : OpenClaim := { program := "ytmdcopgjjfihnaagreat", sum := "5bf1ccc6b239a3243acade0c01b34adc925efc17fe8bf2e391b6e41d1e5f140d", func := "orrery/orrerylaw14.PredCircles", spec := "predCircles", unfollowed := true, recurses := true, apart := false }
def PredCirclesSaid : Prop := predCirclesRow.holds Tryz.pinned (OpenSpec.ofChange predCirclesSpec)

/-- ITS FALSE NEIGHBOUR: 'it returns false'. Refute it at one input. -/
def predCirclesWrong : ChangeSpec := { name := "predCircles", fn := fun _ => fun
  | [d1, d2, d3] => { results := [.lit (.bool false)], args := [d1, d2, d3] }
  | _ => none }
def PredCirclesWrongFalsely : Prop := predCirclesRow.holds Tryz.pinned (OpenSpec.ofChange predCirclesWrong)

/-- 'orrerylaw14.PredFours': WHATEVER THE INPUT: true; the input reads as it did. -/
def predFoursSpec : ChangeSpec := { name := "predFours", fn := fun _ => fun
  | [d] => { results := [.lit (.bool true)], args := [d] }
  | _ => none }
def predFoursRow : OpenClaim := { program := "ytmdcopgjjfihnaagreat", sum := "5bf1ccc6b239a3243acade0c01b34adc925efc17fe8bf2e391b6e41d1e5f140d", func := "orrery/orrerylaw14.PredFours", spec := "predFours", unfollowed := true, recurses := true, apart := false }
def PredFoursSaid : Prop := predFoursRow.holds Tryz.pinned (OpenSpec.ofChange predFoursSpec)

/-- ITS FALSE NEIGHBOUR: 'it returns false'. Refute it at one input. -/
def predFoursWrong : ChangeSpec := { name := "predFours", fn := fun _ => fun
  | [d] => { results := [.lit (.bool false)], args := [d] }
  | _ => none }
def PredFoursWrongFalsely : Prop := predFoursRow.holds Tryz.pinned (OpenSpec.ofChange predFoursWrong)

/-- 'orrerylaw14.PredLines': WHATEVER THE INPUT: true; the input reads as it did. -/
def predLinesSpec : ChangeSpec := { name := "predLines", fn := fun _ => fun
  | [d1, d2, d3] => { results := [.lit (.bool true)], args := [d1, d2, d3] }
  | _ => none }
def predLinesRow : OpenClaim := { program := "ytmdcopgjjfihnaagreat", sum := "5bf1ccc6b239a3243acade0c01b34adc925efc17fe8bf2e391b6e41d1e5f140d", func := "orrery/orrerylaw14.PredLines", spec := "predLines", unfollowed := true, recurses := true, apart := false }
def PredLinesSaid : Prop := predLinesRow.holds Tryz.pinned (OpenSpec.ofChange predLinesSpec)

/-- ITS FALSE NEIGHBOUR: 'it returns false'. Refute it at one input. -/
def predLinesWrong : ChangeSpec := { name := "predLines", fn := fun _ => fun
  | [d1, d2, d3] => { results := [.lit (.bool false)], args := [d1, d2, d3] }
  | _ => none }
def PredLinesWrongFalsely : Prop := predLinesRow.holds Tryz.pinned (OpenSpec.ofChange predLinesWrong)

/-- 'orrerylaw14.PredTurned': WHATEVER THE INPUT: true; the input reads as it did. -/
def predTurnedSpec : ChangeSpec := { name := "predTurned", fn := fun _ => fun
  | [d1, d2, d3] => { results := [.lit (.bool true)], args := [d1, d2, d3] }
  | _ => none }
def predTurnedRow : OpenClaim := { program := "ytmdcopgjjfihnaagreat", sum := "5bf1ccc6b239a3243acade0c01b34adc925efc17fe8bf2e391b6e41d1e5f140d", func := "orrery/orrerylaw14.PredTurned", spec := "predTurned", unfollowed := true, recurses := true, apart := false }
def PredTurnedSaid : Prop := predTurnedRow.holds Tryz.pinned (OpenSpec.ofChange predTurnedSpec)

/-- ITS FALSE NEIGHBOUR: 'it returns false'. Refute it at one input. -/
def predTurnedWrong : ChangeSpec := { name := "predTurned", fn := fun _ => fun
  | [d1, d2, d3] => { results := [.lit (.bool false)], args := [d1, d2, d3] }
  | _ => none }
def PredTurnedWrongFalsely : Prop := predTurnedRow.holds Tryz.pinned (OpenSpec.ofChange predTurnedWrong)

/-- 'orrerylaw08.SturmRaw': WHATEVER THE INPUT: true; the input reads as it did. -/
def sturmRawSpec : ChangeSpec := { name := "sturmRaw", fn := fun _ => fun
  | [d1, d2, d3] => { results := [.lit (.bool true)], args := [d1, d2, d3] }
  | _ => none }
def sturmRawRow : OpenClaim := { program := "ytmdcopgjjfihnaagreat", sum := "5bf1ccc6b239a3243acade0c01b34adc925efc17fe8bf2e391b6e41d1e5f140d", func := "orrery/orrerylaw08.SturmRaw", spec := "sturmRaw", unfollowed := true, recurses := true, apart := false }
def SturmRawSaid : Prop := sturmRawRow.holds Tryz.pinned (OpenSpec.ofChange sturmRawSpec)

/-- ITS FALSE NEIGHBOUR: 'it returns false'. Refute it at one input. -/
def sturmRawWrong : ChangeSpec := { name := "sturmRaw", fn := fun _ => fun
  | [d1, d2, d3] => { results := [.lit (.bool false)], args := [d1, d2, d3] }
  | _ => none }
def SturmRawWrongFalsely : Prop := sturmRawRow.holds Tryz.pinned (OpenSpec.ofChange sturmRawWrong)

/-- 'orrerylaw08.SturmCounts': WHATEVER THE INPUT: true; the input reads as it did. -/
def sturmCountsSpec : ChangeSpec := { name := "sturmCounts", fn := fun _ => fun
  | [d1, d2, d3, d4, d5] => { results := [.lit (.bool true)], args := [d1, d2, d3, d4, d5] }
  | _ => none }
def sturmCountsRow : OpenClaim := { program := "ytmdcopgjjfihnaagreat", sum := "5bf1ccc6b239a3243acade0c01b34adc925efc17fe8bf2e391b6e41d1e5f140d", func := "orrery/orrerylaw08.SturmCounts", spec := "sturmCounts", unfollowed := true, recurses := true, apart := false }
def SturmCountsSaid : Prop := sturmCountsRow.holds Tryz.pinned (OpenSpec.ofChange sturmCountsSpec)

/-- ITS FALSE NEIGHBOUR: 'it returns false'. Refute it at one input. -/
def sturmCountsWrong : ChangeSpec := { name := "sturmCounts", fn := fun _ => fun
  | [d1, d2, d3, d4, d5] => { results := [.lit (.bool false)], args := [d1, d2, d3, d4, d5] }
  | _ => none }
def SturmCountsWrongFalsely : Prop := sturmCountsRow.holds Tryz.pinned (OpenSpec.ofChange sturmCountsWrong)

/-- 'orrerylaw08.SturmRoots': WHATEVER THE INPUT: true; the input reads as it did. -/
def sturmRootsSpec : ChangeSpec := { name := "sturmRoots", fn := fun _ => fun
  | [d1, d2, d3] => { results := [.lit (.bool true)], args := [d1, d2, d3] }
  | _ => none }
def sturmRootsRow : OpenClaim := { program := "ytmdcopgjjfihnaagreat", sum := "5bf1ccc6b239a3243acade0c01b34adc925efc17fe8bf2e391b6e41d1e5f140d", func := "orrery/orrerylaw08.SturmRoots", spec := "sturmRoots", unfollowed := true, recurses := true, apart := false }
def SturmRootsSaid : Prop := sturmRootsRow.holds Tryz.pinned (OpenSpec.ofChange sturmRootsSpec)

/-- ITS FALSE NEIGHBOUR: 'it returns false'. Refute it at one input. -/
def sturmRootsWrong : ChangeSpec := { name := "sturmRoots", fn := fun _ => fun
  | [d1, d2, d3] => { results := [.lit (.bool false)], args := [d1, d2, d3] }
  | _ => none }
def SturmRootsWrongFalsely : Prop := sturmRootsRow.holds Tryz.pinned (OpenSpec.ofChange sturmRootsWrong)

/-- 'orrerylaw08.SturmAdds': WHATEVER THE INPUT: true; the input reads as it did. -/
def sturmAddsSpec : ChangeSpec := { name := "sturmAdds", fn := fun _ => fun
  | [d1, d2, d3, d4, d5, d6, d7] => { results := [.lit (.bool true)], args := [d1, d2, d3, d4, d5, d6, d7] }
  | _ => none }
def sturmAddsRow : OpenClaim := { program := "ytmdcopgjjfihnaagreat", sum := "5bf1ccc6b239a3243acade0c01b34adc925efc17fe8bf2e391b6e41d1e5f140d", func := "orrery/orrerylaw08.SturmAdds", spec := "sturmAdds", unfollowed := true, recurses := true, apart := false }
def SturmAddsSaid : Prop := sturmAddsRow.holds Tryz.pinned (OpenSpec.ofChange sturmAddsSpec)

/-- ITS FALSE NEIGHBOUR: 'it returns false'. Refute it at one input. -/
def sturmAddsWrong : ChangeSpec := { name := "sturmAdds", fn := fun _ => fun
  | [d1, d2, d3, d4, d5, d6, d7] => { results := [.lit (.bool false)], args := [d1, d2, d3, d4, d5, d6, d7] }
  | _ => none }
def SturmAddsWrongFalsely : Prop := sturmAddsRow.holds Tryz.pinned (OpenSpec.ofChange sturmAddsWrong)

/-- 'orrerylaw08.SturmMirror': WHATEVER THE INPUT: true; the input reads as it did. -/
def sturmMirrorSpec : ChangeSpec := { name := "sturmMirror", fn := fun _ => fun
  | [d1, d2, d3] => { results := [.lit (.bool true)], args := [d1, d2, d3] }
  | _ => none }
def sturmMirrorRow : OpenClaim := { program := "ytmdcopgjjfihnaagreat", sum := "5bf1ccc6b239a3243acade0c01b34adc925efc17fe8bf2e391b6e41d1e5f140d", func := "orrery/orrerylaw08.SturmMirror", spec := "sturmMirror", unfollowed := true, recurses := true, apart := false }
def SturmMirrorSaid : Prop := sturmMirrorRow.holds Tryz.pinned (OpenSpec.ofChange sturmMirrorSpec)

/-- ITS FALSE NEIGHBOUR: 'it returns false'. Refute it at one input. -/
def sturmMirrorWrong : ChangeSpec := { name := "sturmMirror", fn := fun _ => fun
  | [d1, d2, d3] => { results := [.lit (.bool false)], args := [d1, d2, d3] }
  | _ => none }
def SturmMirrorWrongFalsely : Prop := sturmMirrorRow.holds Tryz.pinned (OpenSpec.ofChange sturmMirrorWrong)

/-- 'orrerylaw08.SturmChains': WHATEVER THE INPUT: true; the input reads as it did. -/
def sturmChainsSpec : ChangeSpec := { name := "sturmChains", fn := fun _ => fun
  | [d1, d2, d3] => { results := [.lit (.bool true)], args := [d1, d2, d3] }
  | _ => none }
def sturmChainsRow : OpenClaim := { program := "ytmdcopgjjfihnaagreat", sum := "5bf1ccc6b239a3243acade0c01b34adc925efc17fe8bf2e391b6e41d1e5f140d", func := "orrery/orrerylaw08.SturmChains", spec := "sturmChains", unfollowed := true, recurses := true, apart := false }
def SturmChainsSaid : Prop := sturmChainsRow.holds Tryz.pinned (OpenSpec.ofChange sturmChainsSpec)

/-- ITS FALSE NEIGHBOUR: 'it returns false'. Refute it at one input. -/
def sturmChainsWrong : ChangeSpec := { name := "sturmChains", fn := fun _ => fun
  | [d1, d2, d3] => { results := [.lit (.bool false)], args := [d1, d2, d3] }
  | _ => none }
def SturmChainsWrongFalsely : Prop := sturmChainsRow.holds Tryz.pinned (OpenSpec.ofChange sturmChainsWrong)

/-- 'orrerylaw08.SturmBounds': WHATEVER THE INPUT: true; the input reads as it did. -/
def sturmBoundsSpec : ChangeSpec := { name := "sturmBounds", fn := fun _ => fun
  | [d1, d2] => { results := [.lit (.bool true)], args := [d1, d2] }
  | _ => none }
def sturmBoundsRow : OpenClaim := { program := "ytmdcopgjjfihnaagreat", sum := "5bf1ccc6b239a3243acade0c01b34adc925efc17fe8bf2e391b6e41d1e5f140d", func := "orrery/orrerylaw08.SturmBounds", spec := "sturmBounds", unfollowed := true, recurses := true, apart := false }
def SturmBoundsSaid : Prop := sturmBoundsRow.holds Tryz.pinned (OpenSpec.ofChange sturmBoundsSpec)

/-- ITS FALSE NEIGHBOUR: 'it returns false'. Refute it at one input. -/
def sturmBoundsWrong : ChangeSpec := { name := "sturmBounds", fn := fun _ => fun
  | [d1, d2] => { results := [.lit (.bool false)], args := [d1, d2] }
  | _ => none }
def SturmBoundsWrongFalsely : Prop := sturmBoundsRow.holds Tryz.pinned (OpenSpec.ofChange sturmBoundsWrong)

/- THE SECOND FORM. 'bulk': how many values and letters a reading holds, each counted each time it is reached (what is shared counts as often as it is met; a slice's spare places count too). A statement '..UptoSaid' is the law's where the arguments, and the package variables that the reading takes, are together of bulk at most 1048576: NARROWER than '..Said'. Prove '..Said' where nothing that the law and all that it calls make is longer than what came in: it says more and counts as full. Else prove '..UptoSaid'. A law counts once. -/
mutual
def uptoBulk {H : Type} : DataW H → Nat
  | .lit (.string bytes) => bytes.length + 1
  | .lit _ => 1
  | .nil => 1
  | .ptr d => uptoBulk d + 1
  | .slice elems spare => uptoBulkAll elems + uptoBulkAll spare + 1
  | .agg parts => uptoBulkAll parts + 1
  | .iface _ d => uptoBulk d + 1
  | .map entries => uptoBulkEntries entries + 1
  | .held _ => 1
def uptoBulkAll {H : Type} : List (DataW H) → Nat
  | [] => 0
  | d :: r => uptoBulk d + uptoBulkAll r
def uptoBulkEntries {H : Type} : List (Lit × DataW H) → Nat
  | [] => 0
  | x :: r => uptoBulkEntry x + uptoBulkEntries r
def uptoBulkEntry {H : Type} : Lit × DataW H → Nat
  | (.string bytes, d) => bytes.length + uptoBulk d + 1
  | (_, d) => uptoBulk d + 1
 end
def uptoSmall : (H : Type) → List (DataW H) → Bool := fun _ ds => decide (uptoBulkAll ds ≤ 1048576)
def OpenSpec.upto (s : _root_.Go.ChangeSpec) : _root_.Go.OpenSpec := { _root_.Go.OpenSpec.ofChange s with cond := some uptoSmall }

/-- 'orrerylaw14.PredCircles', WHERE WHAT IT READS IS OF BULK AT MOST 1048576: true; the input reads as it did. -/
def predCirclesUptoRow : OpenClaim := { program := "ytmdcopgjjfihnaagreat", sum := "5bf1ccc6b239a3243acade0c01b34adc925efc17fe8bf2e391b6e41d1e5f140d", func := "orrery/orrerylaw14.PredCircles", spec := "predCircles", unfollowed := true, recurses := true, apart := false, narrowed := true }
def PredCirclesUptoSaid : Prop := predCirclesUptoRow.holds Tryz.pinned (OpenSpec.upto predCirclesSpec)

/-- 'orrerylaw14.PredFours', WHERE WHAT IT READS IS OF BULK AT MOST 1048576: true; the input reads as it did. -/
def predFoursUptoRow : OpenClaim := { program := "ytmdcopgjjfihnaagreat", sum := "5bf1ccc6b239a3243acade0c01b34adc925efc17fe8bf2e391b6e41d1e5f140d", func := "orrery/orrerylaw14.PredFours", spec := "predFours", unfollowed := true, recurses := true, apart := false, narrowed := true }
def PredFoursUptoSaid : Prop := predFoursUptoRow.holds Tryz.pinned (OpenSpec.upto predFoursSpec)

/-- 'orrerylaw14.PredLines', WHERE WHAT IT READS IS OF BULK AT MOST 1048576: true; the input reads as it did. -/
def predLinesUptoRow : OpenClaim := { program := "ytmdcopgjjfihnaagreat", sum := "5bf1ccc6b239a3243acade0c01b34adc925efc17fe8bf2e391b6e41d1e5f140d", func := "orrery/orrerylaw14.PredLines", spec := "predLines", unfollowed := true, recurses := true, apart := false, narrowed := true }
def PredLinesUptoSaid : Prop := predLinesUptoRow.holds Tryz.pinned (OpenSpec.upto predLinesSpec)

/-- 'orrerylaw14.PredTurned', WHERE WHAT IT READS IS OF BULK AT MOST 1048576: true; the input reads as it did. -/
def predTurnedUptoRow : OpenClaim := { program := "ytmdcopgjjfihnaagreat", sum := "5bf1ccc6b239a3243acade0c01b34adc925efc17fe8bf2e391b6e41d1e5f140d", func := "orrery/orrerylaw14.PredTurned", spec := "predTurned", unfollowed := true, recurses := true, apart := false, narrowed := true }
def PredTurnedUptoSaid : Prop := predTurnedUptoRow.holds Tryz.pinned (OpenSpec.upto predTurnedSpec)

/-- 'orrerylaw08.SturmRaw', WHERE WHAT IT READS IS OF BULK AT MOST 1048576: true; the input reads as it did. -/
def sturmRawUptoRow : OpenClaim := { program := "ytmdcopgjjfihnaagreat", sum := "5bf1ccc6b239a3243acade0c01b34adc925efc17fe8bf2e391b6e41d1e5f140d", func := "orrery/orrerylaw08.SturmRaw", spec := "sturmRaw", unfollowed := true, recurses := true, apart := false, narrowed := true }
def SturmRawUptoSaid : Prop := sturmRawUptoRow.holds Tryz.pinned (OpenSpec.upto sturmRawSpec)

/-- 'orrerylaw08.SturmCounts', WHERE WHAT IT READS IS OF BULK AT MOST 1048576: true; the input reads as it did. -/
def sturmCountsUptoRow : OpenClaim := { program := "ytmdcopgjjfihnaagreat", sum := "5bf1ccc6b239a3243acade0c01b34adc925efc17fe8bf2e391b6e41d1e5f140d", func := "orrery/orrerylaw08.SturmCounts", spec := "sturmCounts", unfollowed := true, recurses := true, apart := false, narrowed := true }
def SturmCountsUptoSaid : Prop := sturmCountsUptoRow.holds Tryz.pinned (OpenSpec.upto sturmCountsSpec)

/-- 'orrerylaw08.SturmRoots', WHERE WHAT IT READS IS OF BULK AT MOST 1048576: true; the input reads as it did. -/
def sturmRootsUptoRow : OpenClaim := { program := "ytmdcopgjjfihnaagreat", sum := "5bf1ccc6b239a3243acade0c01b34adc925efc17fe8bf2e391b6e41d1e5f140d", func := "orrery/orrerylaw08.SturmRoots", spec := "sturmRoots", unfollowed := true, recurses := true, apart := false, narrowed := true }
def SturmRootsUptoSaid : Prop := sturmRootsUptoRow.holds Tryz.pinned (OpenSpec.upto sturmRootsSpec)

/-- 'orrerylaw08.SturmAdds', WHERE WHAT IT READS IS OF BULK AT MOST 1048576: true; the input reads as it did. -/
def sturmAddsUptoRow : OpenClaim := { program := "ytmdcopgjjfihnaagreat", sum := "5bf1ccc6b239a3243acade0c01b34adc925efc17fe8bf2e391b6e41d1e5f140d", func := "orrery/orrerylaw08.SturmAdds", spec := "sturmAdds", unfollowed := true, recurses := true, apart := false, narrowed := true }
def SturmAddsUptoSaid : Prop := sturmAddsUptoRow.holds Tryz.pinned (OpenSpec.upto sturmAddsSpec)

/-- 'orrerylaw08.SturmMirror', WHERE WHAT IT READS IS OF BULK AT MOST 1048576: true; the input reads as it did. -/
def sturmMirrorUptoRow : OpenClaim := { program := "ytmdcopgjjfihnaagreat", sum := "5bf1ccc6b239a3243acade0c01b34adc925efc17fe8bf2e391b6e41d1e5f140d", func := "orrery/orrerylaw08.SturmMirror", spec := "sturmMirror", unfollowed := true, recurses := true, apart := false, narrowed := true }
def SturmMirrorUptoSaid : Prop := sturmMirrorUptoRow.holds Tryz.pinned (OpenSpec.upto sturmMirrorSpec)

/-- 'orrerylaw08.SturmChains', WHERE WHAT IT READS IS OF BULK AT MOST 1048576: true; the input reads as it did. -/
def sturmChainsUptoRow : OpenClaim := { program := "ytmdcopgjjfihnaagreat", sum := "5bf1ccc6b239a3243acade0c01b34adc925efc17fe8bf2e391b6e41d1e5f140d", func := "orrery/orrerylaw08.SturmChains", spec := "sturmChains", unfollowed := true, recurses := true, apart := false, narrowed := true }
def SturmChainsUptoSaid : Prop := sturmChainsUptoRow.holds Tryz.pinned (OpenSpec.upto sturmChainsSpec)

/-- 'orrerylaw08.SturmBounds', WHERE WHAT IT READS IS OF BULK AT MOST 1048576: true; the input reads as it did. -/
def sturmBoundsUptoRow : OpenClaim := { program := "ytmdcopgjjfihnaagreat", sum := "5bf1ccc6b239a3243acade0c01b34adc925efc17fe8bf2e391b6e41d1e5f140d", func := "orrery/orrerylaw08.SturmBounds", spec := "sturmBounds", unfollowed := true, recurses := true, apart := false, narrowed := true }
def SturmBoundsUptoSaid : Prop := sturmBoundsUptoRow.holds Tryz.pinned (OpenSpec.upto sturmBoundsSpec)

end Rows
end Go.Proofs.YtmdcopgjjfihnaaGreat
