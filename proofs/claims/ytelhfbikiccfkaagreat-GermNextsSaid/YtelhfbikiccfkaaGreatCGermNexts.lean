/- For every input the law GermNexts of chapter 11 returns true, and each argument reads afterwards as it read before. No conditions. -/
import Derived.Test.YtelhfbikiccfkaaGreatRows
import Derived.Test.YtelhfbikiccfkaaGreatCau
set_option linter.unusedSimpArgs false
set_option linter.unusedVariables false
set_option linter.unusedSimpArgs false
set_option linter.unusedVariables false
namespace Go.Proofs.YtelhfbikiccfkaaGreat.germNexts
open Go Pm Go.ChangeShapes Go.WideShapes Go.ChangeAt Go.RowKit
theorem K8:GP Tryz.prog 3 (fun ps=>∃n:Int,ps=aG n ∧ -9223372036854775808≤n∧n<9223372036854775808):=
  (GP.int .i64 (by kernel_rfl)).mono fun ps ⟨n,h1,h2,h3⟩=>⟨n,h1,by simpa [IntKind.min,IntKind.signed,IntKind.bits]using h2,by simp [IntKind.max,IntKind.signed,IntKind.bits]at h3;omega⟩
theorem pL:r5 Tryz.prog 22 (fun q=>∃l:List Int,q=aI aG l∧(∀x∈l, -9223372036854775808≤x∧x<9223372036854775808)∧l.length<9223372036854775808):=
  (r5.slice (e:=3) (by kernel_rfl) (by rw [show Tryz.prog.cellsOf 3=1 by kernel_rfl];decide) K8).mono fun q ⟨l,h1,h2,h3⟩=>by
    obtain⟨m,rfl,hm⟩:=maps (g:=aG) (Q:=fun n => -9223372036854775808≤n∧n<9223372036854775808) (fun ps h=>h) h2
    exact⟨m,h1,hm,by rw [List.length_map]at h3;simp only [maxLen]at h3;omega⟩
set_option maxRecDepth 100000 in
theorem lifted(os:Os)(started:os.Started)(H:Type)(enc:TypeId × Value→H) :
    ReturnsInHanded {} Tryz.checked os 9 .any (Rows.germNextsSpec.pre6 enc Tryz.prog Tryz.f9 Rows.germNextsRow.domain false) (Rows.germNextsSpec.post enc Tryz.prog Tryz.f9 false true false false):=by
  refine M6 (C:=Tryz.checked) (Qs:=[fun q=>∃l:List Int,q=aI aG l∧(∀x∈l, -9223372036854775808≤x∧x<9223372036854775808)∧l.length<9223372036854775808,fun q=>∃n:Int,q = .int .i64 n ∧ -9223372036854775808≤n∧n<9223372036854775808,fun q=>∃l:List Int,q=aI aG l∧(∀x∈l, -9223372036854775808≤x∧x<9223372036854775808)∧l.length<9223372036854775808,fun q=>∃l:List Int,q=aI aG l∧(∀x∈l, -9223372036854775808≤x∧x<9223372036854775808)∧l.length<9223372036854775808]) (tb:=4) own laidOut started (by kernel_rfl) Tryz.func9
    (ChangeSpec.witness6 (enc:=enc) (C:=Tryz.checked) false ⟨#[], #[.slice none 0 0, .int .i64 0, .slice none 0 0, .slice none 0 0],[]⟩ 16 (by kernel_rfl) (by kernel_rfl) (by kernel_rfl) (by kernel_rfl)) rfl ?_ (by kernel_rfl) (by kernel_rfl) ?_ ?_
  · intro ds h
    rw [show Tryz.f9.params.size=4 by kernel_rfl]at h
    match ds,h with
    | [_,_,_,_],_=>rfl
  · rw [show Tryz.f9.params.toList = [22,3,22,22]by kernel_rfl]
    exact⟨pL,by kernel_rfl,of_decide_eq_true (by kernel_rfl),JM,by kernel_rfl,of_decide_eq_true (by kernel_rfl),pL,by kernel_rfl,of_decide_eq_true (by kernel_rfl),pL,by kernel_rfl,of_decide_eq_true (by kernel_rfl),trivial⟩
  · rintro ps h
    obtain⟨_,_,rfl,⟨a0,rfl,h0,g0⟩,⟨_,_,rfl,⟨a1,rfl,h1⟩,⟨_,_,rfl,⟨a2,rfl,h2,g2⟩,⟨_,_,rfl,⟨a3,rfl,h3,g3⟩,rfl⟩⟩⟩⟩:=h
    exact FP a0 a1 a2 a3 h0 g0 h1 h2 g2 h3 g3
theorem z1:(Rows.germNextsRow.inPlace==Tryz.pinned.checked.prog.inPlace 9)=true:=by kernel_rfl
theorem z2:(Rows.germNextsRow.unfollowed==Tryz.pinned.checked.prog.unfollowed 9)=true:=by kernel_rfl
theorem z3:(Rows.germNextsRow.recurses==Tryz.pinned.checked.prog.recurses 9)=true:=by kernel_rfl
theorem z4:(Rows.germNextsRow.named==Tryz.pinned.checked.prog.varsNamed 9)=true:=by kernel_rfl
theorem closed:joinedFacts Tryz.pinned.checked.prog 9 Tryz.f9 Rows.germNextsSpec Rows.germNextsRow=true:=by
  unfold joinedFacts
  rw [z1,z2,z3,z4]
  kernel_rfl
theorem proved:Rows.GermNextsSaid:=
  OpenClaim.holds_of_wide 9 Tryz.f9 rfl rfl rfl rfl rfl rfl rfl ⟨rfl,rfl,rfl,rfl,rfl⟩ rfl rfl rfl rfl rfl (by kernel_rfl) Tryz.func9 closed
    (of_decide_eq_true (by kernel_rfl)) (by unfold Func.isWrapper;first | (rw [if_pos (by decide +kernel)];kernel_rfl) | (rw [if_neg (by decide +kernel)];exact⟨rfl,rfl⟩))
    (fun os started H enc _=>lifted os started H enc)
#print axioms proved
end Go.Proofs.YtelhfbikiccfkaaGreat.germNexts
