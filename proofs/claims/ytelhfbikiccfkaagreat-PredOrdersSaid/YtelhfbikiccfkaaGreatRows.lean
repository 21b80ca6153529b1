/-
  No cell of these rows narrows 'for every input' (looked for: loops, veiled, ifaces, maps, wideKeys, modest, calm, conditions, laid).
  DERIVED. THE GIVEN ROWS OF THIS SEAT. 9 by the template 'for every input the law returns true; each argument reads behind the call as it read before'; 0 by the template 'total and deterministic' (their statements: YtelhfbikiccfkaaGreatTotals.lean).
  GIVEN WITH THE SEED: the statements are not yours to turn. If you find one false, say at which input.
  Laid BY PROGRAM, IN A SANDBOX (cutbox-rows.mjs): the forced cells as the released guide's own fill.sh prints them over the translation 63c57c666ddf748a… (all of the seat's roots in one cut). By AI agents, Wed Nov 11 2026. No macro, syntax, notation, axiom, sorry.
-/
import Derived.Test.YtelhfbikiccfkaaGreatChecked
import GoSem.Claim
import GoSem.ClaimJoined
import GoSem.ClaimMapViews
import Derived.JoinedTies
import Derived.KernelRfl
namespace Go.Proofs.YtelhfbikiccfkaaGreat
/- THE CELL 'sum', in the pinned program and in every row, IS THE sha256 OF THE DUMP (.gsa) THAT YtelhfbikiccfkaaGreatProg.lean LOADS. Nothing in Lean hashes anything: it is a label: what it is worth is what the hold of that sum in a sandbox is worth. -/
noncomputable def Tryz.pinned : Pinned := { name := "ytelhfbikiccfkaagreat", sum := "63c57c666ddf748adb5d276800b2cbc6acebdd55b7865b6c1111e038f77c2e46", checked := Tryz.checked }
namespace Rows
def none {H : Type} : Left H := { results := [], args := [] }

/-- 'orrerylaw09.IsolateKnown': WHATEVER THE INPUT: true; the input reads as it did. -/
def isolateKnownSpec : ChangeSpec := { name := "isolateKnown", fn := fun _ => fun
  | [d] => { results := [.lit (.bool true)], args := [d] }
  | _ => none }
def isolateKnownRow : OpenClaim := { program := "ytelhfbikiccfkaagreat", sum := "63c57c666ddf748adb5d276800b2cbc6acebdd55b7865b6c1111e038f77c2e46", func := "orrery/orrerylaw09.IsolateKnown", spec := "isolateKnown", unfollowed := true, recurses := true, apart := false }
def IsolateKnownSaid : Prop := isolateKnownRow.holds Tryz.pinned (OpenSpec.ofChange isolateKnownSpec)

/-- ITS FALSE NEIGHBOUR: 'it returns false'. Refute it at one input. -/
def isolateKnownWrong : ChangeSpec := { name := "isolateKnown", fn := fun _ => fun
  | [d] => { results := [.lit (.bool false)], args := [d] }
  | _ => none }
def IsolateKnownWrongFalsely : Prop := isolateKnownRow.holds Tryz.pinned (OpenSpec.ofChange isolateKnownWrong)

/-- 'orrerylaw11.GermAts': WHATEVER THE INPUT: true; the input reads as it did. -/
def germAtsSpec : ChangeSpec := { name := "germAts", fn := fun _ => fun
  | [d1, d2, d3, d4] => { results := [.lit (.bool true)], args := [d1, d2, d3, d4] }
  | _ => none }
def germAtsRow : OpenClaim := { program := "ytelhfbikiccfkaagreat", sum := "63c57c666ddf748adb5d276800b2cbc6acebdd55b7865b6c1111e038f77c2e46", func := "orrery/orrerylaw11.GermAts", spec := "germAts", unfollowed := true, recurses := true, apart := false }
def GermAtsSaid : Prop := germAtsRow.holds Tryz.pinned (OpenSpec.ofChange germAtsSpec)

/-- ITS FALSE NEIGHBOUR: 'it returns false'. Refute it at one input. -/
def germAtsWrong : ChangeSpec := { name := "germAts", fn := fun _ => fun
  | [d1, d2, d3, d4] => { results := [.lit (.bool false)], args := [d1, d2, d3, d4] }
  | _ => none }
def GermAtsWrongFalsely : Prop := germAtsRow.holds Tryz.pinned (OpenSpec.ofChange germAtsWrong)

/-- 'orrerylaw11.GermStays': WHATEVER THE INPUT: true; the input reads as it did. -/
def germStaysSpec : ChangeSpec := { name := "germStays", fn := fun _ => fun
  | [d1, d2, d3] => { results := [.lit (.bool true)], args := [d1, d2, d3] }
  | _ => none }
def germStaysRow : OpenClaim := { program := "ytelhfbikiccfkaagreat", sum := "63c57c666ddf748adb5d276800b2cbc6acebdd55b7865b6c1111e038f77c2e46", func := "orrery/orrerylaw11.GermStays", spec := "germStays", unfollowed := true, recurses := true, apart := false }
def GermStaysSaid : Prop := germStaysRow.holds Tryz.pinned (OpenSpec.ofChange germStaysSpec)

/-- ITS FALSE NEIGHBOUR: 'it returns false'. Refute it at one input. -/
def germStaysWrong : ChangeSpec := { name := "germStays", fn := fun _ => fun
  | [d1, d2, d3] => { results := [.lit (.bool false)], args := [d1, d2, d3] }
  | _ => none }
def GermStaysWrongFalsely : Prop := germStaysRow.holds Tryz.pinned (OpenSpec.ofChange germStaysWrong)

/-- 'orrerylaw11.GermProducts': WHATEVER THE INPUT: true; the input reads as it did. -/
def germProductsSpec : ChangeSpec := { name := "germProducts", fn := fun _ => fun
  | [d1, d2, d3, d4] => { results := [.lit (.bool true)], args := [d1, d2, d3, d4] }
  | _ => none }
def germProductsRow : OpenClaim := { program := "ytelhfbikiccfkaagreat", sum := "63c57c666ddf748adb5d276800b2cbc6acebdd55b7865b6c1111e038f77c2e46", func := "orrery/orrerylaw11.GermProducts", spec := "germProducts", unfollowed := true, recurses := true, apart := false }
def GermProductsSaid : Prop := germProductsRow.holds Tryz.pinned (OpenSpec.ofChange germProductsSpec)

/-- ITS FALSE NEIGHBOUR: 'it returns false'. Refute it at one input. -/
def germProductsWrong : ChangeSpec := { name := "germProducts", fn := fun _ => fun
  | [d1, d2, d3, d4] => { results := [.lit (.bool false)], args := [d1, d2, d3, d4] }
  | _ => none }
def GermProductsWrongFalsely : Prop := germProductsRow.holds Tryz.pinned (OpenSpec.ofChange germProductsWrong)

/-- 'orrerylaw14.PredOrders': WHATEVER THE INPUT: true; the input reads as it did. -/
def predOrdersSpec : ChangeSpec := { name := "predOrders", fn := fun _ => fun
  | [d1, d2, d3, d4, d5, d6] => { results := [.lit (.bool true)], args := [d1, d2, d3, d4, d5, d6] }
  | _ => none }
def predOrdersRow : OpenClaim := { program := "ytelhfbikiccfkaagreat", sum := "63c57c666ddf748adb5d276800b2cbc6acebdd55b7865b6c1111e038f77c2e46", func := "orrery/orrerylaw14.PredOrders", spec := "predOrders", unfollowed := true, recurses := true, apart := false }
def PredOrdersSaid : Prop := predOrdersRow.holds Tryz.pinned (OpenSpec.ofChange predOrdersSpec)

/-- ITS FALSE NEIGHBOUR: 'it returns false'. Refute it at one input. -/
def predOrdersWrong : ChangeSpec := { name := "predOrders", fn := fun _ => fun
  | [d1, d2, d3, d4, d5, d6] => { results := [.lit (.bool false)], args := [d1, d2, d3, d4, d5, d6] }
  | _ => none }
def PredOrdersWrongFalsely : Prop := predOrdersRow.holds Tryz.pinned (OpenSpec.ofChange predOrdersWrong)

/-- 'orrerylaw14.PredTotal': WHATEVER THE INPUT: true; the input reads as it did. -/
def predTotalSpec : ChangeSpec := { name := "predTotal", fn := fun _ => fun
  | [d1, d2, d3] => { results := [.lit (.bool true)], args := [d1, d2, d3] }
  | _ => none }
def predTotalRow : OpenClaim := { program := "ytelhfbikiccfkaagreat", sum := "63c57c666ddf748adb5d276800b2cbc6acebdd55b7865b6c1111e038f77c2e46", func := "orrery/orrerylaw14.PredTotal", spec := "predTotal", unfollowed := true, recurses := true, apart := false }
def PredTotalSaid : Prop := predTotalRow.holds Tryz.pinned (OpenSpec.ofChange predTotalSpec)

/-- ITS FALSE NEIGHBOUR: 'it returns false'. Refute it at one input. -/
def predTotalWrong : ChangeSpec := { name := "predTotal", fn := fun _ => fun
  | [d1, d2, d3] => { results := [.lit (.bool false)], args := [d1, d2, d3] }
  | _ => none }
def PredTotalWrongFalsely : Prop := predTotalRow.holds Tryz.pinned (OpenSpec.ofChange predTotalWrong)

/-- 'orrerylaw11.GermNexts': WHATEVER THE INPUT: true; the input reads as it did. -/
def germNextsSpec : ChangeSpec := { name := "germNexts", fn := fun _ => fun
  | [d1, d2, d3, d4] => { results := [.lit (.bool true)], args := [d1, d2, d3, d4] }
  | _ => none }
def germNextsRow : OpenClaim := { program := "ytelhfbikiccfkaagreat", sum := "63c57c666ddf748adb5d276800b2cbc6acebdd55b7865b6c1111e038f77c2e46", func := "orrery/orrerylaw11.GermNexts", spec := "germNexts", unfollowed := true, recurses := true, apart := false }
def GermNextsSaid : Prop := germNextsRow.holds Tryz.pinned (OpenSpec.ofChange germNextsSpec)

/-- ITS FALSE NEIGHBOUR: 'it returns false'. Refute it at one input. -/
def germNextsWrong : ChangeSpec := { name := "germNexts", fn := fun _ => fun
  | [d1, d2, d3, d4] => { results := [.lit (.bool false)], args := [d1, d2, d3, d4] }
  | _ => none }
def GermNextsWrongFalsely : Prop := germNextsRow.holds Tryz.pinned (OpenSpec.ofChange germNextsWrong)

/-- 'orrerylaw11.GermFirsts': WHATEVER THE INPUT: true; the input reads as it did. -/
def germFirstsSpec : ChangeSpec := { name := "germFirsts", fn := fun _ => fun
  | [d1, d2, d3, d4] => { results := [.lit (.bool true)], args := [d1, d2, d3, d4] }
  | _ => none }
def germFirstsRow : OpenClaim := { program := "ytelhfbikiccfkaagreat", sum := "63c57c666ddf748adb5d276800b2cbc6acebdd55b7865b6c1111e038f77c2e46", func := "orrery/orrerylaw11.GermFirsts", spec := "germFirsts", unfollowed := true, recurses := true, apart := false }
def GermFirstsSaid : Prop := germFirstsRow.holds Tryz.pinned (OpenSpec.ofChange germFirstsSpec)

/-- ITS FALSE NEIGHBOUR: 'it returns false'. Refute it at one input. -/
def germFirstsWrong : ChangeSpec := { name := "germFirsts", fn := fun _ => fun
  | [d1, d2, d3, d4] => { results := [.lit (.bool false)], args := [d1, d2, d3, d4] }
  | _ => none }
def GermFirstsWrongFalsely : Prop := germFirstsRow.holds Tryz.pinned (OpenSpec.ofChange germFirstsWrong)

/-- 'orrerylaw15.CertSorts': WHATEVER THE INPUT: true; the input reads as it did. -/
def certSortsSpec : ChangeSpec := { name := "certSorts", fn := fun _ => fun
  | [d1, d2, d3] => { results := [.lit (.bool true)], args := [d1, d2, d3] }
  | _ => none }
def certSortsRow : OpenClaim := { program := "ytelhfbikiccfkaagreat", sum := "63c57c666ddf748adb5d276800b2cbc6acebdd55b7865b6c1111e038f77c2e46", func := "orrery/orrerylaw15.CertSorts", spec := "certSorts", unfollowed := true, recurses := true, apart := false }
def CertSortsSaid : Prop := certSortsRow.holds Tryz.pinned (OpenSpec.ofChange certSortsSpec)

/-- ITS FALSE NEIGHBOUR: 'it returns false'. Refute it at one input. -/
def certSortsWrong : ChangeSpec := { name := "certSorts", fn := fun _ => fun
  | [d1, d2, d3] => { results := [.lit (.bool false)], args := [d1, d2, d3] }
  | _ => none }
def CertSortsWrongFalsely : Prop := certSortsRow.holds Tryz.pinned (OpenSpec.ofChange certSortsWrong)

/- THE SECOND FORM. 'bulk': how many values and letters a reading holds, each counted each time it is reached (what is shared counts as often as it is met; a slice's spare places count too). A statement '..UptoSaid' is the law's where the arguments, and the package variables that the reading takes, are together of bulk at most 1048576: NARROWER than '..Said'. Prove '..Said' where nothing that the law and all that it calls make is longer than what came in: it says more and counts as full. Else prove '..UptoSaid'. A law counts once. -/
mutual
def uptoBulk {H : Type} : DataW H → Nat
  | .lit (.string bytes) => bytes.length + 1
  | .lit _ => 1
  | .nil => 1
  | .ptr d => uptoBulk d + 1
  | .slice elems spare => uptoBulkAll elems + uptoBulkAll spare + 1
  | .agg parts => uptoBulkAll parts + 1
  | .iface _ d => uptoBulk d + 1
  | .map entries => uptoBulkEntries entries + 1
  | .held _ => 1
def uptoBulkAll {H : Type} : List (DataW H) → Nat
  | [] => 0
  | d :: r => uptoBulk d + uptoBulkAll r
def uptoBulkEntries {H : Type} : List (Lit × DataW H) → Nat
  | [] => 0
  | x :: r => uptoBulkEntry x + uptoBulkEntries r
def uptoBulkEntry {H : Type} : Lit × DataW H → Nat
  | (.string bytes, d) => bytes.length + uptoBulk d + 1
  | (_, d) => uptoBulk d + 1
 end
def uptoSmall : (H : Type) → List (DataW H) → Bool := fun _ ds => decide (uptoBulkAll ds ≤ 1048576)
def OpenSpec.upto (s : _root_.Go.ChangeSpec) : _root_.Go.OpenSpec := { _root_.Go.OpenSpec.ofChange s with cond := some uptoSmall }

/-- 'orrerylaw09.IsolateKnown', WHERE WHAT IT READS IS OF BULK AT MOST 1048576: true; the input reads as it did. -/
def isolateKnownUptoRow : OpenClaim := { program := "ytelhfbikiccfkaagreat", sum := "63c57c666ddf748adb5d276800b2cbc6acebdd55b7865b6c1111e038f77c2e46", func := "orrery/orrerylaw09.IsolateKnown", spec := "isolateKnown", unfollowed := true, recurses := true, apart := false, narrowed := true }
def IsolateKnownUptoSaid : Prop := isolateKnownUptoRow.holds Tryz.pinned (OpenSpec.upto isolateKnownSpec)

/-- 'orrerylaw11.GermAts', WHERE WHAT IT READS IS OF BULK AT MOST 1048576: true; the input reads as it did. -/
def germAtsUptoRow : OpenClaim := { program := "ytelhfbikiccfkaagreat", sum := "63c57c666ddf748adb5d276800b2cbc6acebdd55b7865b6c1111e038f77c2e46", func := "orrery/orrerylaw11.GermAts", spec := "germAts", unfollowed := true, recurses := true, apart := false, narrowed := true }
def GermAtsUptoSaid : Prop := germAtsUptoRow.holds Tryz.pinned (OpenSpec.upto germAtsSpec)

/-- 'orrerylaw11.GermStays', WHERE WHAT IT READS IS OF BULK AT MOST 1048576: true; the input reads as it did. -/
def germStaysUptoRow : OpenClaim := { program := "ytelhfbikiccfkaagreat", sum := "63c57c666ddf748adb5d276800b2cbc6acebdd55b7865b6c1111e038f77c2e46", func := "orrery/orrerylaw11.GermStays", spec := "germStays", unfollowed := true, recurses := true, apart := false, narrowed := true }
def GermStaysUptoSaid : Prop := germStaysUptoRow.holds Tryz.pinned (OpenSpec.upto germStaysSpec)

/-- 'orrerylaw11.GermProducts', WHERE WHAT IT READS IS OF BULK AT MOST 1048576: true; the input reads as it did. -/
def germProductsUptoRow : OpenClaim := { program := "ytelhfbikiccfkaagreat", sum := "63c57c666ddf748adb5d276800b2cbc6acebdd55b7865b6c1111e038f77c2e46", func := "orrery/orrerylaw11.GermProducts", spec := "germProducts", unfollowed := true, recurses := true, apart := false, narrowed := true }
def GermProductsUptoSaid : Prop := germProductsUptoRow.holds Tryz.pinned (OpenSpec.upto germProductsSpec)

/-- 'orrerylaw14.PredOrders', WHERE WHAT IT READS IS OF BULK AT MOST 1048576: true; the input reads as it did. -/
def predOrdersUptoRow : OpenClaim := { program := "ytelhfbikiccfkaagreat", sum := "63c57c666ddf748adb5d276800b2cbc6acebdd55b7865b6c1111e038f77c2e46", func := "orrery/orrerylaw14.PredOrders", spec := "predOrders", unfollowed := true, recurses := true, apart := false, narrowed := true }
def PredOrdersUptoSaid : Prop := predOrdersUptoRow.holds Tryz.pinned (OpenSpec.upto predOrdersSpec)

/-- 'orrerylaw14.PredTotal', WHERE WHAT IT READS IS OF BULK AT MOST 1048576: true; the input reads as it did. -/
def predTotalUptoRow : OpenClaim := { program := "ytelhfbikiccfkaagreat", sum := "63c57c666ddf748adb5d276800b2cbc6acebdd55b7865b6c1111e038f77c2e46", func := "orrery/orrerylaw14.PredTotal", spec := "predTotal", unfollowed := true, recurses := true, apart := false, narrowed := true }
def PredTotalUptoSaid : Prop := predTotalUptoRow.holds Tryz.pinned (OpenSpec.upto predTotalSpec)

/-- 'orrerylaw11.GermNexts', WHERE WHAT IT READS IS OF BULK AT MOST 1048576: true; the input reads as it did. -/
def germNextsUptoRow : OpenClaim := { program := "ytelhfbikiccfkaagreat", sum := "63c57c666ddf748adb5d276800b2cbc6acebdd55b7865b6c1111e038f77c2e46", func := "orrery/orrerylaw11.GermNexts", spec := "germNexts", unfollowed := true, recurses := true, apart := false, narrowed := true }
def GermNextsUptoSaid : Prop := germNextsUptoRow.holds Tryz.pinned (OpenSpec.upto germNextsSpec)

/-- 'orrerylaw11.GermFirsts', WHERE WHAT IT READS IS OF BULK AT MOST 1048576: true; the input reads as it did. -/
def germFirstsUptoRow : OpenClaim := { program := "ytelhfbikiccfkaagreat", sum := "63c57c666ddf748adb5d276800b2cbc6acebdd55b7865b6c1111e038f77c2e46", func := "orrery/orrerylaw11.GermFirsts", spec := "germFirsts", unfollowed := true, recurses := true, apart := false, narrowed := true }
def GermFirstsUptoSaid : Prop := germFirstsUptoRow.holds Tryz.pinned (OpenSpec.upto germFirstsSpec)

/-- 'orrerylaw15.CertSorts', WHERE WHAT IT READS IS OF BULK AT MOST 1048576: true; the input reads as it did. -/
def certSortsUptoRow : OpenClaim := { program := "ytelhfbikiccfkaagreat", sum := "63c57c666ddf748adb5d276800b2cbc6acebdd55b7865b6c1111e038f77c2e46", func := "orrery/orrerylaw15.CertSorts", spec := "certSorts", unfollowed := true, recurses := true, apart := false, narrowed := true }
def CertSortsUptoSaid : Prop := certSortsUptoRow.holds Tryz.pinned (OpenSpec.upto certSortsSpec)

end Rows
end Go.Proofs.YtelhfbikiccfkaaGreat
