/- For every input the law CertSorts of chapter 15 returns true, and each argument reads afterwards as it read before. No conditions. -/
import Derived.Test.YtiobceocpabjdaaGreatRows
import Derived.OpenShut
import Derived.Test.YtiobceocpabjdaaGreatCan
set_option linter.unusedSimpArgs false
set_option linter.unusedVariables false
namespace Go.Proofs.YtiobceocpabjdaaGreat
open Go Pm Go.ChangeShapes Go.WideShapes Go.RowKit
theorem KO:tD Tryz.prog 76 (fun ps=>∃a b c d:Int,ps = [.int .i64 a, .int .i64 b, .int .i64 c, .int .i64 d]):=by
 intro H enc w fuel cs x h
 have hu:Tryz.prog.underlying 76=some (.array 4 3):=by kernel_rfl
 have hi:Tryz.prog.underlying 3=some (.int .i64):=by kernel_rfl
 obtain⟨xs,m,_,_,hl,N2,hx⟩:=DataW.trod_array hu h
 rw [show Tryz.prog.cellsOf 76=4 by kernel_rfl]at hl
 rw [show Tryz.prog.cellsOf 3=1 by kernel_rfl]at hx
 match cs,hl with
 | [c0,c1,c2,c3],_ =>
  match xs,N2 with
  | [x0,x1,x2,x3],_ =>
   obtain⟨n0,e0,_,_⟩:=DataW.trod_int hi (hx 0 (by decide))
   obtain⟨n1,e1,_,_⟩:=DataW.trod_int hi (hx 1 (by decide))
   obtain⟨n2,e2,_,_⟩:=DataW.trod_int hi (hx 2 (by decide))
   obtain⟨n3,e3,_,_⟩:=DataW.trod_int hi (hx 3 (by decide))
   simp at e0 e1 e2 e3
   subst e0 e1 e2 e3
   exact⟨_,⟨n0,n1,n2,n3,rfl⟩,⟨_,_,rfl,by simp [cG],_,_,rfl,by simp [cG],_,_,rfl,by simp [cG],_,_,rfl,by simp [cG],rfl⟩,by simp [Value.oneCell']⟩
theorem ZS:tD Tryz.prog 78 (fun ps=>∃t:Tg,ps=AJ t):=
 (tD.struct (fs:=[⟨ "Kind",3,0,false, "", "",0⟩,⟨ "Ids",76,1,false, "", "", 8⟩]) (Rs:=[fun ps=>∃n:Int,ps = [.int .i64 n]∧(IntKind.min .i64)≤n∧n≤(IntKind.max .i64),fun ps=>∃a b c d:Int,ps = [.int .i64 a, .int .i64 b, .int .i64 c, .int .i64 d]]) (by kernel_rfl)
  ⟨rfl,tD.int .i64 (by kernel_rfl),by kernel_rfl,KO,by show(_:Nat)=_;kernel_rfl⟩).mono fun ps h=>by
  simp only [LZ]at h
  obtain⟨a,b,rfl,⟨n,rfl,_⟩,a',b',rfl,⟨x,y,z,u,rfl⟩,rfl⟩:=h
  exact⟨⟨n,x,y,z,u⟩,rfl⟩
theorem UR:nG Tryz.prog 75 (fun q=>∃l:List Tg,q=aX AJ l∧l.length<9223372036854775808):=
 (nG.slice (e:=78) (by kernel_rfl) (by rw [show Tryz.prog.cellsOf 78=5 by kernel_rfl];decide) ZS).mono fun q ⟨l,h1,h2,h3⟩=>by
  obtain⟨m,rfl,_⟩:=maps (g:=AJ) (Q:=fun _=>True) (fun ps ⟨t,h⟩=>⟨t,h,trivial⟩) h2
  exact⟨m,h1,by rw [List.length_map]at h3;simp only [maxLen]at h3;omega⟩
theorem KP:nG Tryz.prog 78 (fun q=>∃t:Tg,q = .ag (AJ t)):=
 (nG.struct (fs:=[⟨ "Kind",3,0,false, "", "",0⟩,⟨ "Ids",76,1,false, "", "", 8⟩]) (Rs:=[fun ps=>∃n:Int,ps = [.int .i64 n]∧(IntKind.min .i64)≤n∧n≤(IntKind.max .i64),fun ps=>∃a b c d:Int,ps = [.int .i64 a, .int .i64 b, .int .i64 c, .int .i64 d]]) (by kernel_rfl)
  ⟨rfl,tD.int .i64 (by kernel_rfl),by kernel_rfl,KO,by show(_:Nat)=_;kernel_rfl⟩).mono fun q ⟨l,h1,h⟩=>by
  simp only [LZ]at h
  obtain⟨a,b,rfl,⟨n,rfl,_⟩,a',b',rfl,⟨x,y,z,u,rfl⟩,rfl⟩:=h
  exact⟨⟨n,x,y,z,u⟩,h1⟩
end Go.Proofs.YtiobceocpabjdaaGreat
set_option linter.unusedSimpArgs false
set_option linter.unusedVariables false
namespace Go.Proofs.YtiobceocpabjdaaGreat.certSorts
open Go Pm Go.ChangeShapes Go.WideShapes Go.ChangeAt Go.RowKit
set_option maxRecDepth 100000 in
theorem lifted(os:Os)(started:os.Started)(H:Type)(enc:TypeId × Value→H) :
    ReturnsInHanded {} Tryz.checked os 5 .any (Rows.certSortsSpec.pre6 enc Tryz.prog Tryz.f5 Rows.certSortsRow.domain false) (Rows.certSortsSpec.post enc Tryz.prog Tryz.f5 false true false false):=by
  refine RM (C:=Tryz.checked) (Qs:=[fun q=>∃l:List Tg,q=aX AJ l∧l.length<9223372036854775808,fun q=>∃t:Tg,q = .ag (AJ t),fun q=>∃t:Tg,q = .ag (AJ t)]) (tb:=4) own laidOut started (by kernel_rfl) Tryz.func5
    (ChangeSpec.witness6 (enc:=enc) (C:=Tryz.checked) false ⟨#[], #[.slice none 0 0, .agg #[.int .i64 0, .int .i64 0, .int .i64 0, .int .i64 0, .int .i64 0], .agg #[.int .i64 0, .int .i64 0, .int .i64 0, .int .i64 0, .int .i64 0]],[]⟩ 16 (by kernel_rfl) (by kernel_rfl) (by kernel_rfl) (by kernel_rfl)) rfl ?_ (by kernel_rfl) (by kernel_rfl) ?_ ?_
  · intro ds h
    rw [show Tryz.f5.params.size=3 by kernel_rfl]at h
    match ds,h with
    | [_,_,_],_=>rfl
  · rw [show Tryz.f5.params.toList = [75,78,78]by kernel_rfl]
    exact⟨UR,by kernel_rfl,of_decide_eq_true (by kernel_rfl),KP,by kernel_rfl,of_decide_eq_true (by kernel_rfl),KP,by kernel_rfl,of_decide_eq_true (by kernel_rfl),trivial⟩
  · rintro ps h
    obtain⟨_,_,rfl,⟨a0,rfl,g0⟩,⟨_,_,rfl,⟨a1,rfl⟩,⟨_,_,rfl,⟨a2,rfl⟩,rfl⟩⟩⟩:=h
    exact xJ a0 a1 a2 g0
theorem z1:(Rows.certSortsRow.inPlace==Tryz.pinned.checked.prog.inPlace 5)=true:=by kernel_rfl
theorem z2:(Rows.certSortsRow.unfollowed==Tryz.pinned.checked.prog.unfollowed 5)=true:=by kernel_rfl
theorem z3:(Rows.certSortsRow.recurses==Tryz.pinned.checked.prog.recurses 5)=true:=by kernel_rfl
theorem z4:(Rows.certSortsRow.named==Tryz.pinned.checked.prog.varsNamed 5)=true:=by kernel_rfl
theorem closed:joinedFacts Tryz.pinned.checked.prog 5 Tryz.f5 Rows.certSortsSpec Rows.certSortsRow=true:=by
  unfold joinedFacts
  rw [z1,z2,z3,z4]
  kernel_rfl
theorem proved:Rows.CertSortsSaid:=
  OpenClaim.holds_of_wide 5 Tryz.f5 rfl rfl rfl rfl rfl rfl rfl ⟨rfl,rfl,rfl,rfl,rfl⟩ rfl rfl rfl rfl rfl (by kernel_rfl) Tryz.func5 closed
    (of_decide_eq_true (by kernel_rfl)) (by unfold Func.isWrapper;first | (rw [if_pos (by decide +kernel)];kernel_rfl) | (rw [if_neg (by decide +kernel)];exact⟨rfl,rfl⟩))
    (fun os started H enc _=>lifted os started H enc)
#print axioms proved
end Go.Proofs.YtiobceocpabjdaaGreat.certSorts
