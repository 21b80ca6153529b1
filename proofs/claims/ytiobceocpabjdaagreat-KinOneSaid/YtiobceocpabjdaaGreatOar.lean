import Derived.Test.YtiobceocpabjdaaGreatOaj
import Derived.Test.YtiobceocpabjdaaGreatOao
import Derived.Test.YtiobceocpabjdaaGreatOap
import Derived.Test.YtiobceocpabjdaaGreatOaq
set_option linter.unusedSimpArgs false
set_option linter.unusedVariables false
namespace Go.Proofs.YtiobceocpabjdaaGreat
open Go Pm
open ZX hiding N W
theorem T6{pn pd qn qd z rn rd:Int}(n1:aE env.P 147 [T2 pn pd] (T2 pn pd))(n2:aE env.P 147 [T2 qn qd] (T2 qn qd))(zc:aE env.P 86 [T2 qn qd,T2 pn pd] (.int .i64 z))(hr:if 0<z then rn=qn∧rd=qd else rn=pn∧rd=pd) :
  aE env.P 90 [T2 pn pd, .sl [[.bool (decide (qn<0)),us (aS LL qn.natAbs), .bool (decide (qd<0)),us (aS LL qd.natAbs)]]] (T2 rn rd):=by
 refine cD [(0,T2 pn pd),(1, .sl [[.bool (decide (qn<0)),us (aS LL qn.natAbs), .bool (decide (qd<0)),us (aS LL qd.natAbs)]])] Tryz.func90 ?_
 refine aA [1,2,4] ?_
 refine aR [1,4,5] n1 ?_
 refine aQ [4,5,10,11,12] ?_
 refine W.block ?_
 refine W.bE (fun k σ=>∃(i:Nat) (mn md:Int) (rows:Pm.Rows) (clk:Nat),σ=⟨fa [(4, .ptr 4 1 0 0),(5, .ptr 5 2 0 0),(10, .sl [[.bool (decide (qn<0)),us (aS LL qn.natAbs), .bool (decide (qd<0)),us (aS LL qd.natAbs)]]),(11, .int .i64 1),(12, .int .i64 i)],rows,clk⟩∧rows 4=some ⟨1,52,4,[[.bool false, .nil, .bool false, .nil]]⟩∧rows 5=some ⟨2,52,4,[[.bool (decide (mn<0)),us (aS LL mn.natAbs), .bool (decide (md<0)),us (aS LL md.natAbs)]]⟩ ∧
  ((i=0∧mn=pn∧md=pd)∨(i=1∧mn=rn∧md=rd))∧i+k=1) 1 ?_ ?_
 ·exact⟨_,aB _ [4,5,10,11,12],0,pn,pd,_,_,rfl,by simp,by simp, .inl ⟨rfl,rfl,rfl⟩,by omega⟩
 rintro k _ ⟨i,mn,md,rows,clk,rfl,c9,dM,hI,zH⟩
 rcases hI with ⟨rfl,rfl,rfl⟩ | ⟨rfl,rfl,rfl⟩
 ·refine bU [4,5,10,11,12,13] ?_
  refine bJ ?_ ?_<;>intro h
  ·refine W.skip ?_
   refine W.dO (fun σ=>∃(rows:Pm.Rows) (clk:Nat),σ=⟨fa [(4, .ptr 4 1 0 0),(5, .ptr 5 2 0 0),(10, .sl [[.bool (decide (qn<0)),us (aS LL qn.natAbs), .bool (decide (qd<0)),us (aS LL qd.natAbs)]]),(11, .int .i64 1),(12, .int .i64 0)],rows,clk⟩∧rows 4=some ⟨1,52,4,[[.bool false, .nil, .bool false, .nil]]⟩∧rows 5=some ⟨2,52,4,[[.bool (decide (rn<0)),us (aS LL rn.natAbs), .bool (decide (rd<0)),us (aS LL rd.natAbs)]]⟩) ?_ ?_
   ·refine aA [4,5,7,10,11,12] ?_
    refine W.sr ?_
    simp (disch:=omega) [gw,dM]
    refine cN [4,5,7,10,11,12,19] zc ?_
    refine bJ ?_ ?_<;>intro h
    ·have h:0<z:=by simpa using h
     rw [if_pos h]at hr
     obtain⟨rfl,rfl⟩:=hr
     refine W.b7 (fun K hK=>?_)
     simp (disch:=omega) [gw,dM]
     refine aC n2 ?_
     simp (disch:=omega) [gw,dM]
     exact hK _ ⟨_,aB _ [4,5,10,11,12],_,_,rfl,by simp [c9],by simp [dM]⟩
    ·have h:¬0<z:=by simpa using h
     rw [if_neg h]at hr
     obtain⟨rfl,rfl⟩:=hr
     refine W.skip ?_
     exact⟨_,aB _ [4,5,10,11,12],_,_,rfl,by simp [c9],by simp [dM]⟩
   rintro _ ⟨rows,clk,rfl,c9,dM⟩
   refine W.b7 (fun K hK=>?_);simp (disch:=omega) [gw]
   refine hK _ ⟨0,_,aB _ [4,5,10,11,12],by omega,1,rn,rd,_,_,rfl,c9,dM, .inr ⟨rfl,rfl,rfl⟩,rfl⟩
  ·simp at h
 ·refine bU [4,5,10,11,12,13] ?_
  refine bJ ?_ ?_<;>intro h
  ·simp at h
  ·refine fA ?_
   refine W.sr ?_
   simp (disch:=omega) [gw,c9,dM]
   refine bH [4] ?_
   exact cC
theorem aaI{u:Nat}{p q:Rat}(hp:SQ u p)(hq:SQ u q)(hu:u≤1000000000):aE env.P 90 [RT p, .sl [tc q]] (RT (if p<q then q else p)):=by
 obtain⟨l1,l2⟩:=hp.LLt (show u<1099511627770 by omega)
 obtain⟨l3,l4⟩:=hq.LLt (show u<1099511627770 by omega)
 have n1:=nC l1 l2
 have n2:=nC l3 l4
 rw [aY]at n1 n2
 have z:=cZ hq.nL hq.dL hp.nL hp.dL (by omega) (aY q) (aY p) ⟨hq.nL,hq.dL⟩ ⟨hp.nL,hp.dL⟩
 refine T6 n1 n2 z ?_
 by_cases h:p<q
 ·rw [if_pos (fN.2 h),if_pos h];exact⟨rfl,rfl⟩
 ·rw [if_neg (fun h2=>h (fN.1 h2)),if_neg h];exact⟨rfl,rfl⟩
theorem avI{x y:Int}(hx:Sz x)(hy:Sz y):aE env.P 248 [I x,I y] (I (x-y)):=by
 have:=M5 (decide (x<0)) (decide (y<0)) (aS LL x.natAbs) (aS LL y.natAbs) hx.VG hy.VG
 rwa [x7,x7]at this
theorem aiD(p q:Rat):dR (p.num*q.den-q.num*p.den) (p.den*q.den)=p-q:=by
 have h1:((p.den:Int)*q.den)≠0:=by
  have:=p.den_nz;have:=q.den_nz
  refine Int.mul_ne_zero ?_ ?_<;>omega
 refine KI h1 ?_
 rw [Rat.intCast_sub,Rat.intCast_mul,Rat.intCast_mul,Rat.intCast_mul,xB p,xB q]
 grind
theorem HS{p q:Rat}{k:Nat}(hp:sz LL p.num≤k∧sz LL (p.den:Int)≤k)(hq:sz LL q.num≤k∧sz LL (q.den:Int)≤k)(hk:k≤300000000000):aE env.P 253 [RT p,RT q] (RT (p-q)):=by
 have c1:=yI hp.1 hp.2 hq.1 hq.2 (by omega) (aY p) (aY q) hp hq
 have g1:=cG (b:=LL) gF hp.1 hq.2
 have g2:=cG (b:=LL) gF hq.1 hp.2
 have g3:=cG (b:=LL) gF hp.2 hq.2
 have g5:=nJ (b:=LL) gF (Nat.le_trans g1 (show k+k≤k+k from Nat.le_refl _)) (Nat.le_trans (Nat.le_of_eq (oT _)) (Nat.le_trans g2 (show k+k≤k+k from Nat.le_refl _)))
 rw [←Int.sub_eq_add_neg]at g5
 have a1:=avI (x:=p.num*q.den) (y:=q.num*p.den) (by show _<_;omega) (by show _<_;omega)
 have h1:((p.den:Int)*q.den)≠0:=by
  have:=p.den_nz;have:=q.den_nz
  refine Int.mul_ne_zero ?_ ?_<;>omega
 have l1:=qO (n:=p.num*q.den-q.num*p.den) (d:=p.den*q.den) (by omega) (by omega) h1
 rw [aiD]at l1
 show aE env.P _ [T2 p.num p.den,T2 q.num q.den] (T2 (p-q).num (p-q).den)
 replace l1:aE env.P 169 [I (p.num*q.den-q.num*p.den),I (p.den*q.den)] (T2 (p-q).num (p-q).den):=l1
 clear g1 g2 g3 g5 h1 hp hq
 generalize (p-q).num=rn at *
 generalize ((p-q).den:Int)=rd at *
 generalize p.num*(q.den:Int)-q.num*p.den=x4 at *
 generalize p.num*(q.den:Int)=x1 at *
 generalize q.num*(p.den:Int)=x2 at *
 generalize (p.den:Int)*(q.den:Int)=x3 at *
 generalize p.num=pn at *
 generalize (p.den:Int)=pd at *
 generalize q.num=qn at *
 generalize (q.den:Int)=qd at *
 refine cD [(0,T2 pn pd),(1,T2 qn qd)] Tryz.func253 ?_
 refine aA [2,3,4] ?_
 refine aR [4,5,6,7] c1 ?_
 refine W.sd ?_
 simp (maxSteps:=4000000) (disch:=omega) [gw]
 refine aC a1 ?_
 simp (maxSteps:=4000000) (disch:=omega) [gw]
 refine aC l1 ?_
 simp (maxSteps:=4000000) (disch:=omega) [gw]
 (try (refine bA (of_decide_eq_true (by kernel_rfl)) ?_));(try simp (maxSteps:=4000000) (disch:=omega) [gw]);(repeat rw [if_pos (by kernel_rfl)]);(try simp (maxSteps:=4000000) (disch:=omega) [gw])
 refine bH [4] ?_
 exact cC
set_option maxHeartbeats 4000000 in
theorem T7{x y:List Int}{an ad bn bd cn cd dn dd:Nat→Int}{N J:Nat}{c:Int}(hs:aE env.P 252 [.ag (G9 x (an 0) (ad 0) (bn 0) (bd 0)), .ag (G9 y (cn 0) (cd 0) (dn 0) (dd 0))] (.int .i64 N))(hN:N<1000000000000000)
  (hb:∀j,j<J→(∃z1,aE env.P 86 [T2 (bn j) (bd j),T2 (cn j) (cd j)] (.int .i64 z1)∧0<z1)∧(∃z2,aE env.P 86 [T2 (dn j) (dd j),T2 (an j) (ad j)] (.int .i64 z2)∧0<z2) ∧
   ∃wn wd vn vd z3,aE env.P 253 [T2 (bn j) (bd j),T2 (an j) (ad j)] (T2 wn wd)∧aE env.P 253 [T2 (dn j) (dd j),T2 (cn j) (cd j)] (T2 vn vd)∧aE env.P 86 [T2 wn wd,T2 vn vd] (.int .i64 z3) ∧
   (if 0≤z3 then aE env.P 254 [.ag (G9 x (an j) (ad j) (bn j) (bd j))] (.ag (G9 x (an (j+1)) (ad (j+1)) (bn (j+1)) (bd (j+1))))∧G9 y (cn (j+1)) (cd (j+1)) (dn (j+1)) (dd (j+1))=G9 y (cn j) (cd j) (dn j) (dd j)
    else aE env.P 254 [.ag (G9 y (cn j) (cd j) (dn j) (dd j))] (.ag (G9 y (cn (j+1)) (cd (j+1)) (dn (j+1)) (dd (j+1))))∧G9 x (an (j+1)) (ad (j+1)) (bn (j+1)) (bd (j+1))=G9 x (an j) (ad j) (bn j) (bd j))) (hJ:J<N) {z1 z2:Int} {pa pb:Bool}
  (k1:aE env.P 86 [T2 (bn J) (bd J),T2 (cn J) (cd J)] (.int .i64 z1)) (k2:aE env.P 86 [T2 (dn J) (dd J),T2 (an J) (ad J)] (.int .i64 z2)) (p1:aE env.P 193 [.ag (G9 x (an J) (ad J) (bn J) (bd J))] (.bool pa)) (p2:aE env.P 193 [.ag (G9 y (cn J) (cd J) (dn J) (dd J))] (.bool pb))
  (hp:¬(pa=true∧pb=true∧z1=0)) (P4:¬(pa=true∧pb=true∧z2=0)) (hc:(z1≤0∧c = -1)∨(0<z1∧z2≤0∧c=1)) :
  aE env.P 196 [.ag (G9 x (an 0) (ad 0) (bn 0) (bd 0)), .ag (G9 y (cn 0) (cd 0) (dn 0) (dd 0))] (.dU [.ag (G9 x (an J) (ad J) (bn J) (bd J)), .ag (G9 y (cn J) (cd J) (dn J) (dd J)), .int .i64 c]):=by
 simp only [G9]at *
 refine cD [(0, .ag (G9 x (an 0) (ad 0) (bn 0) (bd 0))),(1, .ag (G9 y (cn 0) (cd 0) (dn 0) (dd 0)))] Tryz.func196 ?_
 refine aA [2,3,4,5] ?_
 refine W.seq ?_
 refine aR [2,3,4,5,9,10] hs ?_
 refine W.block ?_
 refine W.bE (fun k σ=>∃(j:Nat) (rows:Pm.Rows) (clk:Nat),σ=⟨fa [(2, .ptr 2 0 0 0),(3, .ptr 3 1 0 0),(4, .ptr 4 2 0 0),(5, .ptr 5 3 0 0),(9, .int .i64 N),(10, .int .i64 j)],rows,clk⟩∧rows 2=some ⟨0,54,9,[G9 x (an j) (ad j) (bn j) (bd j)]⟩∧rows 3=some ⟨1,54,9,[G9 y (cn j) (cd j) (dn j) (dd j)]⟩∧rows 4=some ⟨2,54,9,[[.nil, .bool false, .nil, .bool false, .nil, .bool false, .nil, .bool false, .nil]]⟩∧rows 5=some ⟨3,54,9,[[.nil, .bool false, .nil, .bool false, .nil, .bool false, .nil, .bool false, .nil]]⟩∧j+k=J) J ?_ ?_
 ·exact⟨_, .refl,0,_,_,rfl,by simp,by simp,by simp,by simp,by omega⟩
 rintro k _ ⟨j,rows,clk,rfl,bX,cH,c9,dM,hjk⟩
 simp only [G9]at bX cH
 refine bU [2,3,4,5,9,10,11] ?_
 refine bJ ?_ ?_<;>intro h
 ·refine W.skip ?_
  by_cases hjJ:j<J
  ·obtain⟨⟨u1,m1,o1⟩,⟨u2,m2,o2⟩,wn,wd,vn,vd,z3,s1,s2,s3,hh⟩:=hb j hjJ
   have o1':¬u1≤0:=by omega
   have o2':¬u2≤0:=by omega
   refine W.dO (fun σ=>∃(rows:Pm.Rows) (clk:Nat),σ=⟨fa [(2, .ptr 2 0 0 0),(3, .ptr 3 1 0 0),(4, .ptr 4 2 0 0),(5, .ptr 5 3 0 0),(9, .int .i64 N),(10, .int .i64 j)],rows,clk⟩∧rows 2=some ⟨0,54,9,[G9 x (an (j+1)) (ad (j+1)) (bn (j+1)) (bd (j+1))]⟩∧rows 3=some ⟨1,54,9,[G9 y (cn (j+1)) (cd (j+1)) (dn (j+1)) (dd (j+1))]⟩∧rows 4=some ⟨2,54,9,[[.nil, .bool false, .nil, .bool false, .nil, .bool false, .nil, .bool false, .nil]]⟩∧rows 5=some ⟨3,54,9,[[.nil, .bool false, .nil, .bool false, .nil, .bool false, .nil, .bool false, .nil]]⟩) ?_ ?_
   ·refine W.seq ?_
    refine W.block ?_
    refine W.sr ?_
    simp (disch:=omega) [gw,bX,cH]
    refine aC m1 ?_
    simp (disch:=omega) [gw,o1']
    refine bH [2,3,4,5,9,10,12] ?_
    refine bJ ?_ ?_<;>intro h
    ·simp at h
    refine W.sr ?_
    simp (disch:=omega) [gw,bX,cH]
    refine aC m2 ?_
    simp (disch:=omega) [gw,o2']
    refine bH [2,3,4,5,9,10,38] ?_
    refine bJ ?_ ?_<;>intro h
    ·simp at h
    refine W.skip ?_
    refine W.sd ?_
    simp (disch:=omega) [gw,bX,cH]
    refine aC s1 ?_
    simp (disch:=omega) [gw,bX,cH]
    refine cS s2 ?_
    refine cN [2,3,4,5,9,10,75] s3 ?_
    refine bJ ?_ ?_<;>intro h
    ·have h3:0≤z3:=by simpa using h
     rw [if_pos h3]at hh
     obtain⟨h1,h2⟩:=hh
     refine W.b7 (fun K hK=>?_)
     simp (disch:=omega) [gw,bX]
     refine aC h1 ?_
     simp (disch:=omega) [gw,bX]
     exact hK _ ⟨_,aB _ [2,3,4,5,9,10],_,_,rfl,by simp,by simp only [G9];rw [h2];simp [cH],by simp [c9],by simp [dM]⟩
    ·have h3:¬0≤z3:=by simpa using h
     rw [if_neg h3]at hh
     obtain⟨h1,h2⟩:=hh
     refine W.b7 (fun K hK=>?_)
     simp (disch:=omega) [gw,cH]
     refine aC h1 ?_
     simp (disch:=omega) [gw,cH]
     exact hK _ ⟨_,aB _ [2,3,4,5,9,10],_,_,rfl,by simp only [G9];rw [h2];simp [bX],by simp,by simp [c9],by simp [dM]⟩
   rintro _ ⟨rows,clk,rfl,bX,cH,c9,dM⟩
   refine W.b7 (fun K hK=>?_);simp (disch:=omega) [gw]
   refine hK _ ⟨k-1,_,aB _ [2,3,4,5,9,10],by omega,j+1,_,_,rfl,bX,cH,c9,dM,by omega⟩
  ·have hjE:j=J:=by omega
   subst hjE
   refine W.seq ?_
   refine W.block ?_
   refine W.seq ?_
   refine W.block ?_
   rcases hc with ⟨hz,rfl⟩ | ⟨hz1,hz,rfl⟩
   ·refine W.eJ (fun σ=>∃(rows:Pm.Rows) (clk:Nat),σ=⟨fa [(2, .ptr 2 0 0 0),(3, .ptr 3 1 0 0),(4, .ptr 4 2 0 0),(5, .ptr 5 3 0 0),(9, .int .i64 N),(10, .int .i64 j),(12, .bool true)],rows,clk⟩∧rows 2=some ⟨0,54,9,[G9 x (an j) (ad j) (bn j) (bd j)]⟩∧rows 3=some ⟨1,54,9,[G9 y (cn j) (cd j) (dn j) (dd j)]⟩∧rows 4=some ⟨2,54,9,[[.nil, .bool false, .nil, .bool false, .nil, .bool false, .nil, .bool false, .nil]]⟩∧rows 5=some ⟨3,54,9,[[.nil, .bool false, .nil, .bool false, .nil, .bool false, .nil, .bool false, .nil]]⟩) (fun K hK=>?_) ?_
    ·cases pa with
     | false =>
      simp (disch:=omega) [gw,bX,cH]
      refine aC k1 ?_
      simp (disch:=omega) [gw,hz,bX,cH]
      refine aC p1 ?_
      simp (disch:=omega) [gw,bX,cH]
      exact hK _ _ (aB _ [2,3,4,5,9,10,12]) ⟨_,_,rfl,by simp [bX],by simp [cH],by simp [c9],by simp [dM]⟩
     | true =>
      cases pb with
      | false =>
       simp (disch:=omega) [gw,bX,cH]
       refine aC k1 ?_
       simp (disch:=omega) [gw,hz,bX,cH]
       refine aC p1 ?_
       simp (disch:=omega) [gw,bX,cH]
       refine aC p2 ?_
       simp (disch:=omega) [gw,bX,cH]
       exact hK _ _ (aB _ [2,3,4,5,9,10,12]) ⟨_,_,rfl,by simp [bX],by simp [cH],by simp [c9],by simp [dM]⟩
      | true =>
       have n6:(z1==0)=false:=by
        have:¬z1=0:=fun h=>hp ⟨rfl,rfl,h⟩
        simpa using this
       simp (disch:=omega) [gw,bX,cH]
       refine aC k1 ?_
       simp (disch:=omega) [gw,hz,bX,cH]
       refine aC p1 ?_
       simp (disch:=omega) [gw,bX,cH]
       refine aC p2 ?_
       simp (disch:=omega) [gw,bX,cH]
       refine aC k1 ?_
       simp (disch:=omega) [gw,n6]
       exact hK _ _ (aB _ [2,3,4,5,9,10,12]) ⟨_,_,rfl,by simp [bX],by simp [cH],by simp [c9],by simp [dM]⟩
    rintro _ ⟨rows,clk,rfl,bX,cH,c9,dM⟩
    simp only [G9]at bX cH
    refine bJ ?_ ?_<;>intro h
    ·refine W.sd ?_
     simp (disch:=omega) [gw,bX,cH,c9,dM]
     (try (refine bA (of_decide_eq_true (by kernel_rfl)) ?_));(try simp (maxSteps:=4000000) (disch:=omega) [gw,c9,dM]);(repeat rw [if_pos (by kernel_rfl)]);(try simp (maxSteps:=4000000) (disch:=omega) [gw,c9,dM])
     (try (refine bA (of_decide_eq_true (by kernel_rfl)) ?_));(try simp (maxSteps:=4000000) (disch:=omega) [gw,c9,dM]);(repeat rw [if_pos (by kernel_rfl)]);(try simp (maxSteps:=4000000) (disch:=omega) [gw,c9,dM])
     refine bH [4,5,6] ?_
     exact cC
    ·simp at h
   ·have aAP:¬z1≤0:=by omega
    refine W.sr ?_
    simp (disch:=omega) [gw,bX,cH]
    refine aC k1 ?_
    simp (disch:=omega) [gw,aAP]
    refine bH [2,3,4,5,9,10,12] ?_
    refine bJ ?_ ?_<;>intro h
    ·simp at h
    refine W.eJ (fun σ=>∃(rows:Pm.Rows) (clk:Nat),σ=⟨fa [(2, .ptr 2 0 0 0),(3, .ptr 3 1 0 0),(4, .ptr 4 2 0 0),(5, .ptr 5 3 0 0),(9, .int .i64 N),(10, .int .i64 j),(38, .bool true)],rows,clk⟩∧rows 2=some ⟨0,54,9,[G9 x (an j) (ad j) (bn j) (bd j)]⟩∧rows 3=some ⟨1,54,9,[G9 y (cn j) (cd j) (dn j) (dd j)]⟩∧rows 4=some ⟨2,54,9,[[.nil, .bool false, .nil, .bool false, .nil, .bool false, .nil, .bool false, .nil]]⟩∧rows 5=some ⟨3,54,9,[[.nil, .bool false, .nil, .bool false, .nil, .bool false, .nil, .bool false, .nil]]⟩) (fun K hK=>?_) ?_
    ·cases pa with
     | false =>
      simp (disch:=omega) [gw,bX,cH]
      refine aC k2 ?_
      simp (disch:=omega) [gw,hz,bX,cH]
      refine aC p1 ?_
      simp (disch:=omega) [gw,bX,cH]
      exact hK _ _ (aB _ [2,3,4,5,9,10,38]) ⟨_,_,rfl,by simp [bX],by simp [cH],by simp [c9],by simp [dM]⟩
     | true =>
      cases pb with
      | false =>
       simp (disch:=omega) [gw,bX,cH]
       refine aC k2 ?_
       simp (disch:=omega) [gw,hz,bX,cH]
       refine aC p1 ?_
       simp (disch:=omega) [gw,bX,cH]
       refine aC p2 ?_
       simp (disch:=omega) [gw,bX,cH]
       exact hK _ _ (aB _ [2,3,4,5,9,10,38]) ⟨_,_,rfl,by simp [bX],by simp [cH],by simp [c9],by simp [dM]⟩
      | true =>
       have n6:(z2==0)=false:=by
        have:¬z2=0:=fun h=>P4 ⟨rfl,rfl,h⟩
        simpa using this
       simp (disch:=omega) [gw,bX,cH]
       refine aC k2 ?_
       simp (disch:=omega) [gw,hz,bX,cH]
       refine aC p1 ?_
       simp (disch:=omega) [gw,bX,cH]
       refine aC p2 ?_
       simp (disch:=omega) [gw,bX,cH]
       refine aC k2 ?_
       simp (disch:=omega) [gw,n6]
       exact hK _ _ (aB _ [2,3,4,5,9,10,38]) ⟨_,_,rfl,by simp [bX],by simp [cH],by simp [c9],by simp [dM]⟩
    rintro _ ⟨rows,clk,rfl,bX,cH,c9,dM⟩
    simp only [G9]at bX cH
    refine bJ ?_ ?_<;>intro h
    ·refine W.sd ?_
     simp (disch:=omega) [gw,bX,cH,c9,dM]
     (try (refine bA (of_decide_eq_true (by kernel_rfl)) ?_));(try simp (maxSteps:=4000000) (disch:=omega) [gw,c9,dM]);(repeat rw [if_pos (by kernel_rfl)]);(try simp (maxSteps:=4000000) (disch:=omega) [gw,c9,dM])
     (try (refine bA (of_decide_eq_true (by kernel_rfl)) ?_));(try simp (maxSteps:=4000000) (disch:=omega) [gw,c9,dM]);(repeat rw [if_pos (by kernel_rfl)]);(try simp (maxSteps:=4000000) (disch:=omega) [gw,c9,dM])
     refine bH [4,5,6] ?_
     exact cC
    ·simp at h
 ·exfalso
  simp at h;omega
section
variable {x y:List Int} {an ad bn bd cn cd dn dd:Int} (nx:aE env.P 192 [.ag (G9 x an ad bn bd)] (.ag (G9 x an ad bn bd))) (ny:aE env.P 192 [.ag (G9 y cn cd dn dd)] (.ag (G9 y cn cd dn dd)))
include nx ny
theorem ao1{r:Int}(hr:r = -1∨r=0∨r=1)(p1:aE env.P 193 [.ag (G9 x an ad bn bd)] (.bool true))(k:aE env.P 111 [.ag (G9 y cn cd dn dd),T2 an ad] (.int .i64 r)):aE env.P 110 [.ag (G9 x an ad bn bd), .ag (G9 y cn cd dn dd)] (.int .i64 (-r)):=by
 have hw:IntKind.wrap .i64 (-r) = -r:=wrap_i64 (by omega) (by omega)
 simp only [G9]at *
 refine cD [(0, .ag (G9 x an ad bn bd)),(1, .ag (G9 y cn cd dn dd))] Tryz.func110 ?_
 refine aA [2,3] ?_
 refine nU ?_
 refine cS nx ?_
 refine cS ny ?_
 (try (refine bA (of_decide_eq_true (by kernel_rfl)) ?_));(try simp (maxSteps:=4000000) (disch:=omega) [gw]);(repeat rw [if_pos (by kernel_rfl)]);(try simp (maxSteps:=4000000) (disch:=omega) [gw])
 (try (refine bA (of_decide_eq_true (by kernel_rfl)) ?_));(try simp (maxSteps:=4000000) (disch:=omega) [gw]);(repeat rw [if_pos (by kernel_rfl)]);(try simp (maxSteps:=4000000) (disch:=omega) [gw])
 refine bH [2,3] ?_
 refine W.seq ?_
 refine W.block ?_
 refine aR [2,3,15] p1 ?_
 refine bJ ?_ ?_<;>intro h
 ·refine jC ?_
  refine aC k ?_
  simp (disch:=omega) [gw,hw]
  refine bH [4] ?_
  exact cC
 ·simp at h
theorem ao2{r:Int}(p1:aE env.P 193 [.ag (G9 x an ad bn bd)] (.bool false))(p2:aE env.P 193 [.ag (G9 y cn cd dn dd)] (.bool true))(k:aE env.P 111 [.ag (G9 x an ad bn bd),T2 cn cd] (.int .i64 r)):aE env.P 110 [.ag (G9 x an ad bn bd), .ag (G9 y cn cd dn dd)] (.int .i64 r):=by
 simp only [G9]at *
 refine cD [(0, .ag (G9 x an ad bn bd)),(1, .ag (G9 y cn cd dn dd))] Tryz.func110 ?_
 refine aA [2,3] ?_
 refine nU ?_
 refine cS nx ?_
 refine cS ny ?_
 (try (refine bA (of_decide_eq_true (by kernel_rfl)) ?_));(try simp (maxSteps:=4000000) (disch:=omega) [gw]);(repeat rw [if_pos (by kernel_rfl)]);(try simp (maxSteps:=4000000) (disch:=omega) [gw])
 (try (refine bA (of_decide_eq_true (by kernel_rfl)) ?_));(try simp (maxSteps:=4000000) (disch:=omega) [gw]);(repeat rw [if_pos (by kernel_rfl)]);(try simp (maxSteps:=4000000) (disch:=omega) [gw])
 refine bH [2,3] ?_
 refine W.seq ?_
 refine W.block ?_
 refine aR [2,3,15] p1 ?_
 refine bJ ?_ ?_<;>intro h
 ·simp at h
 refine aR [2,3,23] p2 ?_
 refine bJ ?_ ?_<;>intro h
 ·refine aR [4] k ?_
  exact cC
 ·simp at h
set_option maxHeartbeats 4000000 in
theorem XJ{g:List Int}{ln ld hn hd zd zl dg r:Int}{v w:PV}{hs:Bool}(p1:aE env.P 193 [.ag (G9 x an ad bn bd)] (.bool false))(p2:aE env.P 193 [.ag (G9 y cn cd dn dd)] (.bool false))
  (kM:aE env.P 90 [T2 an ad, .sl [[.bool (decide (cn<0)),us (aS LL cn.natAbs), .bool (decide (cd<0)),us (aS LL cd.natAbs)]]] (T2 ln ld)) (kD:aE env.P 86 [T2 dn dd,T2 bn bd] (.int .i64 zd)) (hh:if zd<0 then hn=dn∧hd=dd else hn=bn∧hd=bd) (kL:aE env.P 86 [T2 ln ld,T2 hn hd] (.int .i64 zl))
  (hG:zl<0→aE env.P 194 [.sl [[Po x],[Po y]]] (Po g)) (hD:zl<0→aE env.P 83 [Po g] (.int .i64 dg)) (hH:zl<0→0<dg→aE env.P 195 [Po g,T2 ln ld,T2 hn hd] (.bool hs)) (hr:zl<0∧0<dg∧hs=true→r=0)
  (hA:¬(zl<0∧0<dg∧hs=true)→aE env.P 196 [.ag (G9 x an ad bn bd), .ag (G9 y cn cd dn dd)] (.dU [v,w, .int .i64 r])) (hv:∃a b c d,v = .ag (G9 x a b c d)) (hw:∃a b c d,w = .ag (G9 y a b c d)) :
  aE env.P 110 [.ag (G9 x an ad bn bd), .ag (G9 y cn cd dn dd)] (.int .i64 r):=by
 obtain⟨va,vb,vc,vd,rfl⟩:=hv
 obtain⟨wa,wb,wc,wd,rfl⟩:=hw
 simp only [G9]at *
 refine cD [(0, .ag (G9 x an ad bn bd)),(1, .ag (G9 y cn cd dn dd))] Tryz.func110 ?_
 refine aA [2,3] ?_
 refine nU ?_
 refine cS nx ?_
 refine cS ny ?_
 (try (refine bA (of_decide_eq_true (by kernel_rfl)) ?_));(try simp (maxSteps:=4000000) (disch:=omega) [gw]);(repeat rw [if_pos (by kernel_rfl)]);(try simp (maxSteps:=4000000) (disch:=omega) [gw])
 (try (refine bA (of_decide_eq_true (by kernel_rfl)) ?_));(try simp (maxSteps:=4000000) (disch:=omega) [gw]);(repeat rw [if_pos (by kernel_rfl)]);(try simp (maxSteps:=4000000) (disch:=omega) [gw])
 refine bH [2,3] ?_
 refine W.seq ?_
 refine W.block ?_
 refine aR [2,3,15] p1 ?_
 refine bJ ?_ ?_<;>intro h
 ·simp at h
 refine aR [2,3,23] p2 ?_
 refine bJ ?_ ?_<;>intro h
 ·simp at h
 refine W.skip ?_
 refine nU ?_
 refine aC kM ?_
 simp (maxSteps:=4000000) (disch:=omega) [gw]
 (try (refine bA (of_decide_eq_true (by kernel_rfl)) ?_));(try simp (maxSteps:=4000000) (disch:=omega) [gw]);(repeat rw [if_pos (by kernel_rfl)]);(try simp (maxSteps:=4000000) (disch:=omega) [gw])
 (try (refine bA (of_decide_eq_true (by kernel_rfl)) ?_));(try simp (maxSteps:=4000000) (disch:=omega) [gw]);(repeat rw [if_pos (by kernel_rfl)]);(try simp (maxSteps:=4000000) (disch:=omega) [gw])
 refine bH [2,3,5,6] ?_
 refine W.iB (fun σ=>∃(v5 v6:Nat) (rows:Pm.Rows) (clk:Nat),σ=⟨fa [(2, .ptr 2 0 0 0),(3, .ptr 3 1 0 0),(5, .ptr 5 v5 0 0),(6, .ptr 6 v6 0 0)],rows,clk⟩∧rows 2=some ⟨0,54,9,[G9 x an ad bn bd]⟩∧rows 3=some ⟨1,54,9,[G9 y cn cd dn dd]⟩∧rows 5=some ⟨v5,52,4,[[.bool (decide (ln<0)),us (aS LL ln.natAbs), .bool (decide (ld<0)),us (aS LL ld.natAbs)]]⟩∧rows 6=some ⟨v6,52,4,[[.bool (decide (hn<0)),us (aS LL hn.natAbs), .bool (decide (hd<0)),us (aS LL hd.natAbs)]]⟩) ?_ ?_
 ·refine aR [2,3,5,6,42] kD ?_
  refine bJ ?_ ?_<;>intro h
  ·have h:zd<0:=by simpa using h
   rw [if_pos h]at hh
   obtain⟨rfl,rfl⟩:=hh
   refine W.b7 (fun K hK=>?_);simp (disch:=omega) [gw]
   exact hK _ ⟨_,aB _ [2,3,5,6],_,_,_,_,rfl,by simp,by simp,by simp,by simp⟩
  ·have h:¬zd<0:=by simpa using h
   rw [if_neg h]at hh
   obtain⟨rfl,rfl⟩:=hh
   refine W.skip ?_
   exact⟨_,aB _ [2,3,5,6],_,_,_,_,rfl,by simp,by simp,by simp,by simp⟩
 rintro _ ⟨v5,v6,rows,clk,rfl,bX,cH,dM,l8⟩
 simp only [G9]at bX cH
 by_cases hz:zl<0∧0<dg∧hs=true
 ·have hG':=hG hz.1
  have hD':=hD hz.1
  have hH':=hH hz.1 hz.2.1
  obtain⟨z1,z2,rfl⟩:=hz
  rw [hr ⟨z1,z2,rfl⟩]
  refine W.seq ?_
  refine W.sr ?_
  simp (disch:=omega) [gw,dM,l8]
  refine cN [2,3,5,6,48] kL ?_
  refine bJ ?_ ?_<;>intro h
  ·refine W.sr ?_
   simp (disch:=omega) [gw,bX,cH]
   refine cN [2,3,5,6,7] hG' ?_
   refine jC ?_
   refine aC hD' ?_
   simp (disch:=omega) [gw,z2,dM,l8]
   refine cN [2,3,63] hH' ?_
   refine bJ ?_ ?_<;>intro h
   ·refine aA [4] ?_
    exact cC
   ·simp at h
  ·exfalso;simp at h;omega
 ·have hA':=hA hz
  refine W.iB (fun σ=>∃(rows:Pm.Rows) (clk:Nat),σ=⟨fa [(2, .ptr 2 0 0 0),(3, .ptr 3 1 0 0)],rows,clk⟩∧rows 2=some ⟨0,54,9,[G9 x an ad bn bd]⟩∧rows 3=some ⟨1,54,9,[G9 y cn cd dn dd]⟩) ?_ ?_
  ·refine W.sr ?_
   simp (disch:=omega) [gw,dM,l8]
   refine cN [2,3,5,6,48] kL ?_
   refine bJ ?_ ?_<;>intro h
   ·have h:zl<0:=by simpa using h
    have hG':=hG h
    have hD':=hD h
    have hH':=hH h
    refine W.sr ?_
    simp (disch:=omega) [gw,bX,cH]
    refine cN [2,3,5,6,7] hG' ?_
    refine W.eJ (fun σ=>∃(rows:Pm.Rows) (clk:Nat),σ=⟨fa [(2, .ptr 2 0 0 0),(3, .ptr 3 1 0 0),(63, .bool false)],rows,clk⟩∧rows 2=some ⟨0,54,9,[G9 x an ad bn bd]⟩∧rows 3=some ⟨1,54,9,[G9 y cn cd dn dd]⟩) (fun K hK=>?_) ?_
    ·by_cases h2:0<dg
     ·have hH2:=hH' h2
      have hf:hs=false:=by
       cases hs with
       | false=>rfl
       | true=>exact absurd ⟨h,h2,rfl⟩ hz
      subst hf
      simp (disch:=omega) [gw]
      refine aC hD' ?_
      simp (disch:=omega) [gw,h2,dM,l8]
      refine cS hH2 ?_
      refine hK _ _ (aB _ [2,3,63]) ⟨_,_,rfl,by simp [bX],by simp [cH]⟩
     ·simp (disch:=omega) [gw]
      refine aC hD' ?_
      simp (disch:=omega) [gw,h2]
      refine hK _ _ (aB _ [2,3,63]) ⟨_,_,rfl,by simp [bX],by simp [cH]⟩
    rintro _ ⟨rows,clk,rfl,bX,cH⟩
    refine bJ ?_ ?_<;>intro h
    ·simp at h
    refine W.skip ?_
    exact⟨_,aB _ [2,3],_,_,rfl,bX,cH⟩
   ·refine W.skip ?_
    exact⟨_,aB _ [2,3],_,_,rfl,by simp [bX],by simp [cH]⟩
  rintro _ ⟨rows,clk,rfl,bX,cH⟩
  simp only [G9]at bX cH
  refine W.sr ?_
  simp (disch:=omega) [gw,bX,cH]
  refine cN [10] hA' ?_
  refine aA [4] ?_
  exact cC
end
theorem AN.EE{s n u:Nat}{f:ZX}{p:Rat × Rat}(a:AN s n u f p){t:Rat}{v:Nat}(qt:SQ v t)(huv:u≤v)(hv:v≤1000000000):aE env.P 111 [GA f p,RT t] (.int .i64 (cr (dF f p) t)):=by
 have I:=a.I
 have q1:=a.q1.mono huv
 have q2:=a.q2.mono huv
 have hp:=kA (x:=f.l) q1 q2 hv
 have hc:=a.A.avq t
 by_cases hpt:p.1=p.2
 ·rw [decide_eq_true (by rw [hpt];exact Rat.le_refl)]at hp
  have z:=cZ q1.nL q1.dL qt.nL qt.dL (by omega) (aY p.1) (aY t) ⟨q1.nL,q1.dL⟩ ⟨qt.nL,qt.dL⟩
  have:=TZ hp z
  have e1:cr (dF f p) t=dI (p.1.num*(t.den:Int)) (t.num*(p.1.den:Int)):=by
   rw [hc,if_pos hpt]
   by_cases h2:p.1<t
   ·rw [if_pos h2,l5 (mF.1 (fO.2 h2))]
   ·rw [if_neg h2]
    by_cases h3:t<p.1
    ·rw [if_pos h3,l6 (pI.1 (fN.2 h3))]
    ·rw [if_neg h3,lB.2 (by grind)]
  rw [e1]
  exact this
 ·have dK:p.1<p.2:=by have:=a.A.le;grind
  rw [decide_eq_false (Rat.not_le.2 dK)]at hp
  rw [hc,if_neg hpt]
  by_cases h1:t≤p.1
  ·rw [if_pos h1]
   have z1:=cZ qt.nL qt.dL q1.nL q1.dL (by omega) (aY t) (aY p.1) ⟨qt.nL,qt.dL⟩ ⟨q1.nL,q1.dL⟩
   have z2:=cZ qt.nL qt.dL q2.nL q2.dL (by omega) (aY t) (aY p.2) ⟨qt.nL,qt.dL⟩ ⟨q2.nL,q2.dL⟩
   refine sP hp z1 z2 (sR f I.ch.bz (by have:=a.hs;omega) (by have:=I.ch.hn;omega) qt hv) (BF I (by have:=a.hs;omega) q1 hv) ?_
   rw [if_pos (pV.2 h1)]
  ·rw [if_neg h1]
   by_cases h2:p.2<t
   ·rw [if_pos h2]
    have z1:=cZ qt.nL qt.dL q1.nL q1.dL (by omega) (aY t) (aY p.1) ⟨qt.nL,qt.dL⟩ ⟨q1.nL,q1.dL⟩
    have z2:=cZ qt.nL qt.dL q2.nL q2.dL (by omega) (aY t) (aY p.2) ⟨qt.nL,qt.dL⟩ ⟨q2.nL,q2.dL⟩
    refine sP hp z1 z2 (sR f I.ch.bz (by have:=a.hs;omega) (by have:=I.ch.hn;omega) qt hv) (BF I (by have:=a.hs;omega) q1 hv) ?_
    rw [if_neg (fun h=>h1 (pV.1 h)),if_pos (fN.2 h2)]
   ·rw [if_neg h2]
    have k:=ae1 I (by have:=a.hs;omega) a.A (m:=t) (by grind) (by grind) q1 q2 qt hv
    have b1:=I.S.cR (show p.1≤t by grind)
    have e1:(if e t f=0 then 0 else if vt (bK f) t<vt (bK f) p.1 then -1 else 1:Int)=if vt (bK f) p.1=vt (bK f) t then 1 else if e t f=0 then 0 else -1:=by
     by_cases h3:e t f=0
     ·have:=I.S.root (show p.1<t by grind) h3
      rw [if_pos h3,if_neg (by omega),if_pos h3]
     ·rw [if_neg h3]
      by_cases h4:vt (bK f) t<vt (bK f) p.1
      ·rw [if_pos h4,if_neg (by omega),if_neg h3]
      ·rw [if_neg h4,if_pos (by omega)]
    rw [←e1]
    exact k
noncomputable def st(f h:ZX)(p q:Rat × Rat):Nat→(Rat × Rat) × (Rat × Rat)
 | 0=>(p,q)
 | j+1=>if (st f h p q j).2.2-(st f h p q j).2.1≤(st f h p q j).1.2-(st f h p q j).1.1 then(vG f (st f h p q j).1,(st f h p q j).2)else((st f h p q j).1,vG h (st f h p q j).2)
section
variable {f h:ZX} {p q:Rat × Rat} (A:tQ f (vt (bK f)) p.1 p.2) (B:tQ h (vt (bK h)) q.1 q.2) {D D':Nat} {b:Rat} (g1:Gr D b 0 p.1) (g2:Gr D b 0 p.2) (g3:Gr D' b 0 q.1) (g4:Gr D' b 0 q.2)
include A B g1 g2 g3 g4
theorem xJ:∀j,tQ f (vt (bK f)) (st f h p q j).1.1 (st f h p q j).1.2∧tQ h (vt (bK h)) (st f h p q j).2.1 (st f h p q j).2.2∧(∀t,dF f (st f h p q j).1 t↔dF f p t)∧(∀t,dF h (st f h p q j).2 t↔dF h q t)∧Gr D b j (st f h p q j).1.1∧Gr D b j (st f h p q j).1.2∧Gr D' b j (st f h p q j).2.1∧Gr D' b j (st f h p q j).2.2
 | 0=>⟨A,B,fun _=>Iff.rfl,fun _=>Iff.rfl,g1,g2,g3,g4⟩
 | j+1=>by
  obtain⟨a1,a2,a3,a4,a5,a6,a7,a8⟩:=xJ j
  rw [st]
  split
  ·obtain⟨b1,b2,_⟩:=lC a1
   obtain⟨c1,c2⟩:=T3 (f:=f) a5 a6
   exact⟨b1,a2,fun t=>(b2 t).trans (a3 t),a4,c1,c2,a7.mono (by omega),a8.mono (by omega)⟩
  ·obtain⟨b1,b2,_⟩:=lC a2
   obtain⟨c1,c2⟩:=T3 (f:=h) a7 a8
   exact⟨a1,b1,a3,fun t=>(b2 t).trans (a4 t),a5.mono (by omega),a6.mono (by omega),c1,c2⟩
theorem ae6{W:Rat}(w1:p.2-p.1≤W)(w2:q.2-q.1≤W):∀i,((st f h p q (2*i)).1.2-(st f h p q (2*i)).1.1)*2^i≤W∧((st f h p q (2*i)).2.2-(st f h p q (2*i)).2.1)*2^i≤W
 | 0=>by rw [Rat.pow_zero,Rat.mul_one,Rat.mul_one];exact⟨w1,w2⟩
 | i+1=>by
  obtain⟨h1,h2⟩:=ae6 w1 w2 i
  have s0:=xJ A B g1 g2 g3 g4 (2*i)
  have s1:=xJ A B g1 g2 g3 g4 (2*i+1)
  have key:∀M:Rat,(st f h p q (2*i)).1.2-(st f h p q (2*i)).1.1≤M→(st f h p q (2*i)).2.2-(st f h p q (2*i)).2.1≤M→((st f h p q (2*i+2)).1.2-(st f h p q (2*i+2)).1.1)*2≤M∧((st f h p q (2*i+2)).2.2-(st f h p q (2*i+2)).2.1)*2≤M:=fun M m1 m2=>by
   have a1:=(lC s0.1).2.2.2.2
   have a2:=(lC s0.2.1).2.2.2.2
   have b1:=(lC s1.1).2.2.2.2
   have b2:=(lC s1.2.1).2.2.2.2
   have l1:=s1.1.le
   have l2:=s1.2.1.le
   have l3:=(lC s1.1).1.le
   have l4:=(lC s1.2.1).1.le
   have e2:st f h p q (2*i+2)=if (st f h p q (2*i+1)).2.2-(st f h p q (2*i+1)).2.1≤(st f h p q (2*i+1)).1.2-(st f h p q (2*i+1)).1.1 then(vG f (st f h p q (2*i+1)).1,(st f h p q (2*i+1)).2)else((st f h p q (2*i+1)).1,vG h (st f h p q (2*i+1)).2):=rfl
   have e1:st f h p q (2*i+1)=if (st f h p q (2*i)).2.2-(st f h p q (2*i)).2.1≤(st f h p q (2*i)).1.2-(st f h p q (2*i)).1.1 then(vG f (st f h p q (2*i)).1,(st f h p q (2*i)).2)else((st f h p q (2*i)).1,vG h (st f h p q (2*i)).2):=rfl
   rw [e2]
   generalize st f h p q (2*i+1)=t at *
   generalize st f h p q (2*i)=s at *
   clear e2 s0 s1 h1 h2
   split
   ·rename_i c
    show((vG f t.1).2-(vG f t.1).1)*2≤M∧(t.2.2-t.2.1)*2≤M
    split at e1
    ·subst e1;dsimp only at *;exact⟨by grind,by grind⟩
    ·subst e1;dsimp only at *;exact⟨by grind,by grind⟩
   ·rename_i c
    show(t.1.2-t.1.1)*2≤M∧((vG h t.2).2-(vG h t.2).1)*2≤M
    split at e1
    ·subst e1;dsimp only at *;exact⟨by grind,by grind⟩
    ·subst e1;dsimp only at *;exact⟨by grind,by grind⟩
  have hP:=gN i
  have e3:W/2^i*2^i=W:=Rat.div_mul_cancel (Rat.ne_of_gt hP)
  have hle:∀x:Rat,x*2^i≤W→x≤W/2^i:=fun x hx=>Rat.le_of_mul_le_mul_right (by rw [e3];exact hx) hP
  obtain⟨k1,k2⟩:=key (W/2^i) (hle _ h1) (hle _ h2)
  rw [show 2*(i+1)=2*i+2 by omega,Rat.pow_succ]
  have m1:=Rat.mul_le_mul_of_nonneg_right k1 (Rat.le_of_lt hP)
  have m2:=Rat.mul_le_mul_of_nonneg_right k2 (Rat.le_of_lt hP)
  rw [e3]at m1 m2
  exact⟨by grind,by grind⟩
end
theorem aiE{U V:Rat→Prop}{x y:Rat}(hU:∀s t,U s→s≤t→U t)(hx:U x)(hy:∀t,V t→y≤t)(qT:x≤y)(mZ:¬ ∀t,U t↔V t):cu U V = -1:=by
 unfold cu
 refine if_pos (Classical.byContradiction fun AM=>mZ fun t=>⟨fun h=>Classical.byContradiction fun h2=>AM ⟨t,h,h2⟩,fun h=>hU x t hx ?_⟩)
 have:=hy t h
 grind
theorem aiF{U V:Rat→Prop}{x y:Rat}(hV:∀s t,V s→s≤t→V t)(hx:V x)(hy:∀t,U t→y≤t)(qT:x≤y)(mZ:¬ ∀t,U t↔V t):cu U V=1:=by
 have h1:∀t,U t→V t:=fun t h=>hV x t hx (by have:=hy t h;grind)
 unfold cu
 rw [if_neg (fun ⟨t,h2,h3⟩=>h3 (h1 t h2))]
 exact if_pos (Classical.byContradiction fun AM=>mZ fun t=>⟨h1 t,fun h=>Classical.byContradiction fun h2=>AM ⟨t,h,h2⟩⟩)
theorem lo_le{f:ZX}{v:Rat→Nat}{lo hi:Rat}(A:tQ f v lo hi){t:Rat}(h:jJ v lo hi t):lo≤t:=Rat.not_lt.1 fun h2=>A.oZ (.inl h2) h
theorem ae7{s n u s' n' u':Nat}{f h:ZX}{p q:Rat × Rat}(a:AN s n u f p)(b:AN s' n' u' h q)(mZ:¬ ∀x,dF f p x↔dF h q x)(hp:p.1<p.2)(hq:q.1<q.2){M:Nat}(hM:64+4*(ZX.N f+ZX.N h)*(zs f+zs h+(ZX.N f+ZX.N h)+8)≤M) :
  ∃J,J<M∧((st f h p q J).1.2≤(st f h p q J).2.1∨(st f h p q J).2.2≤(st f h p q J).1.1) ∧ ∀j,j<J→¬((st f h p q j).1.2≤(st f h p q j).2.1∨(st f h p q j).2.2≤(st f h p q j).1.1):=by
 have I:=a.I
 have I':=b.I
 have A:=a.A
 have B:=b.A
 have n8:=a.n8
 have m8:=b.n8
 have n2:=ae3 I.nf A
 have m2:=ae3 I'.nf B
 have fz:=PK I.ch.bz
 have hz:=PK I'.ch.bz
 have bf:=KX I.nf fz
 have bh:=KX I'.nf hz
 have hA:∀c∈f.l,c.natAbs≤2^zs f:=fun c hc=>Nat.le_of_lt (BZ.lt fz c hc)
 have hB:∀c∈h.l,c.natAbs≤2^zs h:=fun c hc=>Nat.le_of_lt (BZ.lt hz c hc)
 obtain⟨D,_,_,g1,g2⟩:=PE (a.q1.mono (show u≤u+u' by omega)) (a.q2.mono (show u≤u+u' by omega))
 obtain⟨D',_,_,g3,g4⟩:=PE (b.q1.mono (show u'≤u+u' by omega)) (b.q2.mono (show u'≤u+u' by omega))
 obtain⟨z,hz1,uT,hz3⟩:∃z,z≤zs f∧z≤zs h∧(z=zs f∨z=zs h):=by
  rcases Nat.le_total (zs f) (zs h)with h1 | h1
  ·exact⟨zs f,Nat.le_refl _,h1, .inl rfl⟩
  ·exact⟨zs h,h1,Nat.le_refl _, .inr rfl⟩
 have e1:=HM n2 m2 n8 m8 hz1 uT
 have e2:=HM m2 n2 m8 n8 uT hz1
 have e3:(2*lk (zs f) (ZX.N f) 3 (z+2)+2*(zs f+zs h)+9≤64+4*(ZX.N f+ZX.N h)*(zs f+zs h+(ZX.N f+ZX.N h)+8))∨(2*lk (zs h) (ZX.N h) 3 (z+2)+2*(zs f+zs h)+9≤64+4*(ZX.N f+ZX.N h)*(zs f+zs h+(ZX.N f+ZX.N h)+8)):=by
  have sw:4*(ZX.N h+ZX.N f)*(zs h+zs f+(ZX.N h+ZX.N f)+8)=4*(ZX.N f+ZX.N h)*(zs f+zs h+(ZX.N f+ZX.N h)+8):=by rw [Nat.add_comm (ZX.N h),Nat.add_comm (zs h)]
  rcases Nat.le_total (zs f) (zs h)with h1 | h1
  ·have hz':z=zs f:=by omega
   subst hz'
   rcases Nat.lt_or_ge 2 (ZX.N h)with h2 | h2
   ·exact .inl (HN n2 m2 n8 h1 (.inl h2))
   ·exact .inr (HO n2 n8 h1 (by omega))
  ·have hz':z=zs h:=by omega
   subst hz'
   rcases Nat.lt_or_ge 2 (ZX.N f)with h2 | h2
   ·have:=HN m2 n2 m8 h1 (.inl h2)
    rw [sw,Nat.add_comm (zs h) (zs f)]at this
    exact .inr this
   ·have:=HO (m:=ZX.N f) m2 m8 h1 (by omega)
    rw [sw,Nat.add_comm (zs h) (zs f)]at this
    exact .inl this
 have sw:4*(ZX.N h+ZX.N f)*(zs h+zs f+(ZX.N h+ZX.N f)+8)=4*(ZX.N f+ZX.N h)*(zs f+zs h+(ZX.N f+ZX.N h)+8):=by rw [Nat.add_comm (ZX.N h),Nat.add_comm (zs h)]
 rw [sw]at e2
 generalize 64+4*(ZX.N f+ZX.N h)*(zs f+zs h+(ZX.N f+ZX.N h)+8)=T at *
 obtain⟨K,hK⟩:∃K,K=(T-1)/2-(zs f+zs h+3):=⟨_,rfl⟩
 have hi:2*(K+1+(zs f+zs h+2))<T:=by omega
 have k1:se (zs f) (zs h) (ZX.N f) (ZX.N h) (z+2)≤K:=by omega
 have k2:se (zs h) (zs f) (ZX.N h) (ZX.N f) (z+2)≤K:=by omega
 have k3:lk (zs f) (ZX.N f) 3 (z+2)≤K∨lk (zs h) (ZX.N h) 3 (z+2)≤K:=by omega
 generalize hie:K+1+(zs f+zs h+2)=i at *
 have uH:(st f h p q (2*i)).1.2≤(st f h p q (2*i)).2.1∨(st f h p q (2*i)).2.2≤(st f h p q (2*i)).1.1:=by
  refine Classical.byContradiction fun AM=>mZ ?_
  obtain⟨c1,c2⟩:=not_or.1 AM
  have w0:∀ {r:Rat × Rat} {y:Nat},Ab r.1 (2^(y+1))→Ab r.2 (2^(y+1))→y≤zs f+zs h→r.2-r.1≤2^(zs f+zs h+2):=fun {r y} ⟨x1,x2⟩ ⟨x3,x4⟩ hy=>by
   refine Rat.le_trans ?_ (HJ (show y+1+1≤zs f+zs h+2 by omega))
   rw [Rat.pow_succ];grind
  obtain⟨w1,w2⟩:=ae6 A B g1 g2 g3 g4 (w0 (a.b1 hp) (a.b2 hp) (by omega)) (w0 (b.b1 hq) (b.b2 hq) (by omega)) i
  obtain⟨s1,s2,s3,s4,_⟩:=xJ A B g1 g2 g3 g4 (2*i)
  generalize st f h p q (2*i)=t at *
  have l1:=s1.le
  have l2:=s2.le
  obtain⟨S,hS,hS1,hS2⟩:∃S,(S=t.1.1∨S=t.2.1)∧S≤t.1.1∧S≤t.2.1:=by
   by_cases hh:t.1.1≤t.2.1
   ·exact⟨_, .inl rfl,Rat.le_refl,hh⟩
   ·exact⟨_, .inr rfl,by grind,Rat.le_refl⟩
  obtain⟨E,hE,hE1,hE2⟩:∃E,(E=t.1.2∨E=t.2.2)∧t.1.2≤E∧t.2.2≤E:=by
   by_cases hh:t.1.2≤t.2.2
   ·exact⟨_, .inr rfl,hh,Rat.le_refl⟩
   ·exact⟨_, .inl rfl,Rat.le_refl,by grind⟩
  have hP:=gN (zs f+zs h+2)
  have nar:∀x:Rat,x*2^i≤2^(zs f+zs h+2)→x*2^(K+1)≤1:=fun x hx=>by
   rw [←hie,qP (K+1),←Rat.mul_assoc]at hx
   refine Rat.le_of_mul_le_mul_right ?_ hP
   rw [Rat.one_mul];exact hx
  have hd:(E-S)*2^K≤1:=by
   have n1:=nar _ w1
   have n2:=nar _ w2
   have hPK:=gN K
   rw [Rat.pow_succ]at n1 n2
   have:E-S≤(t.1.2-t.1.1)+(t.2.2-t.2.1):=by rcases hS with rfl | rfl<;>rcases hE with rfl | rfl<;>grind
   have:=Rat.mul_le_mul_of_nonneg_right this (Rat.le_of_lt hPK)
   grind
  have a1:¬dF f p S:=fun hh2=>s1.oZ (by grind) ((s3 S).2 hh2)
  have b1:¬dF h q S:=fun hh2=>s2.oZ (by grind) ((s4 S).2 hh2)
  have a2:dF f p E:=(s3 E).1 (s1.up lA hE1)
  have b2:dF h q E:=(s4 E).1 (s2.up lA hE2)
  have hSE:=(fT A).lt a1 a2
  have h1:E-S≤1:=by
   have:=Rat.mul_le_mul_of_nonneg_left (qQ K) (show 0≤E-S by grind)
   grind
  have bd:Ab S (2^(z+2))∧Ab E (2^(z+2)):=by
   have main:∀b:Rat,Ab b (2^(z+1))→S<b → -b<E→Ab S (2^(z+2))∧Ab E (2^(z+2)):=fun b ⟨y1,y2⟩ y3 y4=>by
    have y5:=qQ (z+1)
    rw [show z+2=z+1+1 by omega,Rat.pow_succ]
    generalize (2:Rat)^(z+1)=T at *
    exact⟨⟨by grind,by grind⟩,⟨by grind,by grind⟩⟩
   rcases hz3 with rfl | rfl
   ·exact main _ bf ((KY I.nf A).2 a1) ((KY I.nf A).1 a2)
   ·exact main _ bh ((KY I'.nf B).2 b1) ((KY I'.nf B).1 b2)
  exact aiC I.nf I'.nf I.cop I'.cop A B hA hB (Nat.le_refl _) (Nat.le_refl _) n8 m8 k1 k2 k3 bd.1 bd.2 a1 a2 b1 b2 hd
 obtain⟨J,hJ,hj,iX⟩:=vE (fun j=>(st f h p q j).1.2≤(st f h p q j).2.1∨(st f h p q j).2.2≤(st f h p q j).1.1) (2*i+1)
 have hJ2:J<2*i+1:=Nat.not_le.1 fun hh=>hj (2*i) (by omega) uH
 exact⟨J,by omega,iX hJ2,hj⟩
def gg(x:ZX × Rat × Rat):List PV:=Po x.1.l::(tc x.2.1++tc x.2.2)
@[simp] theorem aAS{x:ZX × Rat × Rat}:gg x=Po x.1.l::(tc x.2.1++tc x.2.2):=rfl
@[simp] theorem arf{l:List (ZX × Rat × Rat)}:bG 9 (emap gg l)=True:=cB fun _=>rfl
@[simp] theorem ao3{v e n:Nat}{l:List (ZX × Rat × Rat)}:cQ (some ⟨v,e,n,emap gg l⟩)=True:=bT fun _=>rfl
abbrev ae8:PV:=.ag [.sl [], .bool false, .sl [], .bool false, .sl [], .bool false, .sl [], .bool false, .sl []]
theorem aaJ{f:ZX}{p:Rat × Rat}(S:tP f (vt (bK f)))(h:vt (bK f) p.1=vt (bK f) p.2+1)(t:Rat):dF f p t↔vt (bK f) t≤vt (bK f) p.2:=by
 refine⟨fun hh=>?_,fun hh=>?_⟩
 ·rcases hh with hh | ⟨_,hh⟩
  ·exact S.cR hh
  ·omega
 ·refine .inr ⟨?_,by omega⟩
  refine Rat.not_le.1 fun h2=>?_
  have:=S.cR h2
  omega
theorem yR{v:Rat→Nat}{D:Nat}{B δ:Rat}(C:Cut v B δ):∀(k j:Nat) (lo hi:Rat),Gr D B j lo→Gr D B j hi→lo<hi→hi-lo≤δ*2^k → ∀i,i<(LG v k lo hi).length→v (nth (LG v k lo hi) i).2+i+1=v lo
 | 0,j,lo,hi,g1,g2,h,hd,i,iQ=>by
  rw [LG]at iQ ⊢
  split at iQ
  ·cases iQ
  ·rename_i he
   rw [if_neg he]
   have:=C.leaf g1.b g2.b h (by rw [Rat.pow_zero,Rat.mul_one]at hd;exact hd) he
   simp at iQ;subst iQ
   show v hi+0+1=v lo
   omega
 | k+1,j,lo,hi,g1,g2,h,hd,i,iQ=>by
  rw [LG]at iQ ⊢
  by_cases he:v lo=v hi
  ·rw [if_pos he]at iQ;cases iQ
  ·rw [if_neg he]at iQ ⊢
   by_cases J0:v lo=v hi+1
   ·rw [if_pos J0]at iQ ⊢
    simp at iQ;subst iQ
    show v hi+0+1=v lo
    omega
   ·rw [if_neg J0]at iQ ⊢
    obtain⟨m1,m2⟩:=yP h
    obtain⟨d1,d2⟩:=xE hd
    have gm:=g1.LB g2
    have a:=yR C k (j+1) lo ((lo+hi)/2) (g1.mono (by omega)) gm m1 d1
    have b:=yR C k (j+1) ((lo+hi)/2) hi gm (g2.mono (by omega)) m2 d2
    obtain⟨_,l1,_⟩:=tI C k (j+1) lo ((lo+hi)/2) (g1.mono (by omega)) gm m1 d1
    have n1:=C.cR lo ((lo+hi)/2) (Rat.le_of_lt m1)
    generalize (lo+hi)/2=m at *
    rw [List.length_append]at iQ
    rcases Nat.lt_or_ge i (LG v k lo m).length with h3 | h3
    ·have h4:=a i h3
     rw [bW (by rw [List.length_append];omega),List.getElem_append_left h3,←bW h3]
     exact h4
    ·have h4:=b (i-(LG v k lo m).length) (by omega)
     rw [bW (by rw [List.length_append];omega),List.getElem_append_right h3,←bW]
     omega
namespace pU
variable {s n:Nat} {f:ZX} (I:pU s n f)
include I
theorem aaK(i:Nat)(hi:i<(KU s n f).length):vt (bK f) (nth (KU s n f) i).2+i+1=vt (bK f) (-iC f.l):=by
 obtain⟨δ,h1,h2,C⟩:=I.cut (s+1)
 exact yR C (lvl s n) 0 _ _ I.KS I.ED I.XA (I.width h2) i hi
theorem ak2(x:Rat):vt (bK f) x≤vt (bK f) (-iC f.l):=by
 by_cases h:x < -iC f.l
 ·exact Nat.le_of_eq (I.S.bg (a:=x) (b := -iC f.l) ⟨1,by decide,fun y _ h2=>(mW f.c I.f0 (.inl h2)).1⟩ h)
 ·exact I.S.cR (Rat.not_lt.1 h)
theorem avJ(x:Rat):vt (bK f) (iC f.l)≤vt (bK f) x:=by
 by_cases h:iC f.l<x
 ·exact Nat.le_of_eq (I.S.bg (a:=iC f.l) (b:=x) ⟨1,by decide,fun y h2 _=>(mW f.c I.f0 (.inr h2)).1⟩ h)
 ·exact I.S.cR (Rat.not_lt.1 h)
theorem T8(i:Nat)(hi:i<(KU s n f).length)(t:Rat):dF f (nth ((KU s n f).map (ex f)) i) t↔vt (bK f) t+i+1≤vt (bK f) (-iC f.l):=by
 obtain⟨a1,a2,a3,a4,a5,a6⟩:=I.ivs.mem _ (bN hi)
 have hl:=I.aaK i hi
 rw [EG hi]
 refine((BE ⟨I.S, .inr ⟨a4,a6⟩⟩).2 t).trans ?_
 rw [aaJ I.S a6]
 omega
end pU
end Go.Proofs.YtiobceocpabjdaaGreat
namespace Go.Proofs.YtiobceocpabjdaaGreat
open Go Pm
open ZX hiding N W
theorem ae9{s n:Nat}{f:ZX}(I:pU s n f)(h:ZX)(hC:(qb (qb s n) n+n+6)*4^n≤4500000000)(hq:qb s n≤5000000):pU (qb s n) n (gz h f):=by
 have nd:Nf (gz h f):=G6 (.inr I.nf.ne)
 have hd:dv (gz h f) f:=(fH h f).r
 obtain⟨w,nw,e⟩:=I.nf.quo nd hd
 have hD:bY f=bY w*gz h f+w*bY (gz h f):=by
  have h1:=congrArg bY e
  rwa [tB]at h1
 refine⟨⟨I.lay.dv I.nf nd hd,I.lay.hn,Nat.le_trans I.lay.hs (Nat.pow_le_pow_right (by decide) (by unfold qb;omega)),hC⟩,I.A5,nd,KV nd fun d h1 h2=>I.cop d (h1.trans hd) (by rw [hD];exact(h1.mul_left _).add (h2.mul_left _)),hq⟩
theorem pU.root{s n:Nat}{f:ZX}(I:pU s n f){p:Rat × Rat}(hp:p∈KU s n f):SQ (uu s) p.1∧SQ (uu s) p.2∧tQ f (vt (bK f)) (ex f p).1 (ex f p).2∧SQ (uu s) (ex f p).1∧SQ (uu s) (ex f p).2:=by
 obtain⟨a1,a2,a3,a4,a5,a6⟩:=I.ivs.mem _ hp
 refine⟨a1,a2,(BE ⟨I.S, .inr ⟨a4,a6⟩⟩).1,?_,?_⟩<;>(unfold ex;split<;>assumption)
theorem common{f h:ZX}{p q:Rat × Rat}(nf:Nf f)(nh:Nf h)(cf:uI f (bY f))(ch:uI h (bY h))(n8:ZX.N f≤20)(m8:ZX.N h≤20)(A:tQ f (vt (bK f)) p.1 p.2)(B:tQ h (vt (bK h)) q.1 q.2)(hp:p.1<p.2)(hq:q.1<q.2){lo hi:Rat}(l1:lo=p.1∨lo=q.1)(l2:p.1≤lo)(l3:q.1≤lo)(r1:hi=p.2∨hi=q.2)(r2:hi≤p.2)(r3:hi≤q.2) :
  (lo<hi∧vt (bK (gz f h)) hi<vt (bK (gz f h)) lo) ↔ ∀x,dF f p x↔dF h q x:=by
 obtain⟨w1,S1⟩:=vC (h:=h) nf cf
 obtain⟨w2,S2⟩:=vC (h:=f) nh ch
 rw [←JW]at S2
 have n1:=S1.N
 have n2:=S2.N
 have hg:=PA S1.ng.ne S1.sg (by omega)
 have Y7:=PA S1.nw.ne S1.sw (by omega)
 have hw2:=PA S2.nw.ne S2.sw (by omega)
 have hv:vt (bK f) p.1=vt (bK f) p.2+1:=by
  rcases A.k with ⟨h,_⟩ | ⟨_,h⟩
  ·grind
  ·exact h
 have hv':vt (bK h) q.1=vt (bK h) q.2+1:=by
  rcases B.k with ⟨h,_⟩ | ⟨_,h⟩
  ·grind
  ·exact h
 constructor
 ·rintro⟨dK,hγ⟩
  have c1:=S1.P5 A.S hg Y7 (Rat.le_of_lt dK)
  have c2:=S2.P5 B.S hg hw2 (Rat.le_of_lt dK)
  have m1:=Y7.cR (Rat.le_of_lt dK)
  have m2:=hw2.cR (Rat.le_of_lt dK)
  have v1:=A.S.cR l2
  have v2:=A.S.cR r2
  have u1:=B.S.cR l3
  have u2:=B.S.cR r3
  have a1:¬dF f p lo:=by
   rintro(h | ⟨_,h⟩)
   ·grind
   ·omega
  have b1:¬dF h q lo:=by
   rintro(h | ⟨_,h⟩)
   ·grind
   ·omega
  have a2:dF f p hi:=.inr ⟨by grind,by omega⟩
  have b2:dF h q hi:=.inr ⟨by grind,by omega⟩
  exact PC A B S1 S2 hg Y7 hw2 dK a1 a2 b1 b2 (by omega) (by omega) hγ
 ·intro hx
  have a1:¬dF f p lo:=by
   rcases l1 with h | h
   ·rw [h];exact A.oZ (.inr ⟨rfl,hp⟩)
   ·rw [h];exact fun h2=>B.oZ (.inr ⟨rfl,hq⟩) ((hx _).1 h2)
  have a2:dF f p hi:=by
   rcases r1 with h | h
   ·rw [h];exact lA
   ·rw [h];exact(hx _).2 lA
  have dK:=(fT A).lt a1 a2
  refine⟨dK,Nat.not_le.1 fun hγ=>?_⟩
  obtain⟨B0,hB0,ab1,ab2⟩:=k8 lo hi
  obtain⟨δ,hδ,hno⟩:=aiz Y7 B.S S1.wh B0
  obtain⟨a,b,g1,g2,g3,g4,g5,g6⟩:=XD (U:=dF f p) hδ dK a1 a2
  have o1:=o7 A g5 g6 g2
  have o2:=o7 B (fun hh=>g5 ((hx _).2 hh)) ((hx _).1 g6) g2
  have k1:=S1.P5 A.S hg Y7 (Rat.le_of_lt g2)
  have x1:=hg.cR g1
  have x2:=hg.cR g3
  have x3:=hg.cR (Rat.le_of_lt g2)
  rcases hno a b (cI ab1 ab2 g1 (by grind)) (cI ab1 ab2 (by grind) g3) g2 g4 with hh | hh<;>omega
theorem ak3{u u':Nat}{D j M:Nat}{r r':Rat}(h1:1≤D)(h2:D≤2^(2*(u+u')))(g:Gr D (2^(u+u')) j r)(g':Gr D (2^(u+u')) j r')(hj:j≤M):SQ (3*(u+u')+M+2) r∧SQ (3*(u+u')+M+2) r'∧SQ (3*(u+u')+M+2) ((r+r')/2):=
 ⟨((g.mono hj).sq h1 h2).mono (by omega),((g'.mono hj).sq h1 h2).mono (by omega),((((g.mono hj).LB (g'.mono hj))).sq h1 h2).mono (by omega)⟩
theorem afa{D j β d:Nat}{r r':Rat}(h1:1≤D)(h2:D≤2^d)(g:Gr D (2^β) j r)(g':Gr D (2^β) j r'):SQ (β+1+d+j+1) (r'-r):=by
 obtain⟨⟨y,hy⟩,b1,b2⟩:=g
 obtain⟨⟨z,hz⟩,b3,b4⟩:=g'
 have:Gr D (2^(β+1)) j (r'-r):=⟨⟨z-y,by rw [Rat.intCast_sub,←hz,←hy];grind⟩,by rw [Rat.pow_succ];exact⟨by grind,by grind⟩⟩
 exact this.sq h1 h2
theorem AN.cmp{s n u s' n' u':Nat}{f h:ZX}{p q:Rat × Rat}(a:AN s n u f p)(b:AN s' n' u' h q)(hG:aE env.P 194 [.sl [[Po f.l],[Po h.l]]] (Po (gz f h).l))(IG:2≤ZX.N (gz f h) → ∃sg ng,pU sg ng (gz f h)∧sg≤1000000) :
  aE env.P 110 [GA f p,GA h q] (.int .i64 (cu (dF f p) (dF h q))):=by
 have I:=a.I
 have I':=b.I
 have A:=a.A
 have B:=b.A
 have hsa:=a.hs
 have hsb:=b.hs
 have hua:=a.hu
 have hub:=b.hu
 have hn:=I.ch.hn
 have AA:=I'.ch.hn
 have n8:=a.n8
 have m8:=b.n8
 have Nx:=xI I.ch.bz (by omega) (by omega) a.q1 a.q2 (by omega)
 have Ny:=xI I'.ch.bz (by omega) (by omega) b.q1 b.q2 (by omega)
 have P1:=kA (x:=f.l) a.q1 a.q2 (by omega)
 have P2:=kA (x:=h.l) b.q1 b.q2 (by omega)
 by_cases h1:p.1=p.2
 ·rw [decide_eq_true (by rw [h1];exact Rat.le_refl)]at P1
  have k:=b.EE (v:=u+u') (a.q1.mono (by omega)) (by omega) (by omega)
  rw [EF (qR h1) (fun _=>Iff.rfl),aeQ fun s t=>B.up]
  exact ao1 Nx Ny (aeR _ _) P1 k
 have dK:p.1<p.2:=by have:=A.le;grind
 rw [decide_eq_false (Rat.not_le.2 dK)]at P1
 by_cases h2:q.1=q.2
 ·rw [decide_eq_true (by rw [h2];exact Rat.le_refl)]at P2
  have k:=a.EE (v:=u+u') (b.q1.mono (by omega)) (by omega) (by omega)
  rw [EF (fun _=>Iff.rfl) (qR h2),aaB fun s t=>A.up]
  exact ao2 Nx Ny P1 P2 k
 have hlq:q.1<q.2:=by have:=B.le;grind
 rw [decide_eq_false (Rat.not_le.2 hlq)]at P2
 have a1:=a.q1.mono (show u≤u+u' by omega)
 have a2:=a.q2.mono (show u≤u+u' by omega)
 have b1:=b.q1.mono (show u'≤u+u' by omega)
 have b2:=b.q2.mono (show u'≤u+u' by omega)
 have hU:u+u'≤1000000000:=by omega
 have kM:=aaI a1 b1 hU
 have kD:=cZ b2.nL b2.dL a2.nL a2.dL (by omega) (aY q.2) (aY p.2) ⟨b2.nL,b2.dL⟩ ⟨a2.nL,a2.dL⟩
 obtain⟨lo,EU,l1,l2,l3,ql⟩:∃lo,lo=(if p.1<q.1 then q.1 else p.1)∧(lo=p.1∨lo=q.1)∧p.1≤lo∧q.1≤lo∧SQ (u+u') lo:=by
  refine⟨_,rfl,?_⟩
  split
  ·exact⟨.inr rfl,by grind,Rat.le_refl,b1⟩
  ·exact⟨.inl rfl,Rat.le_refl,by grind,a1⟩
 obtain⟨hi,PU,r1,r2,r3,qh⟩:∃hi,hi=(if q.2<p.2 then q.2 else p.2)∧(hi=p.2∨hi=q.2)∧hi≤p.2∧hi≤q.2∧SQ (u+u') hi:=by
  refine⟨_,rfl,?_⟩
  split
  ·exact⟨.inr rfl,by grind,Rat.le_refl,b2⟩
  ·exact⟨.inl rfl,Rat.le_refl,by grind,a2⟩
 rw [←EU]at kM
 have BP:if dI (q.2.num*(p.2.den:Int)) (p.2.num*(q.2.den:Int))<0 then hi.num=q.2.num∧(hi.den:Int)=q.2.den else hi.num=p.2.num∧(hi.den:Int)=p.2.den:=by
  by_cases hh:q.2<p.2
  ·rw [if_pos (fO.2 hh),PU,if_pos hh];exact⟨rfl,rfl⟩
  ·rw [if_neg (fun h3=>hh (fO.1 h3)),PU,if_neg hh];exact⟨rfl,rfl⟩
 have kL:=cZ ql.nL ql.dL qh.nL qh.dL (by omega) (aY lo) (aY hi) ⟨ql.nL,ql.dL⟩ ⟨qh.nL,qh.dL⟩
 have zl:dI (lo.num*(hi.den:Int)) (hi.num*(lo.den:Int))<0↔lo<hi:=fO
 have hgN:ZX.N (gz f h)≤ZX.N f:=(fH f h).l.nQ I.nf.ne
 have hD:aE env.P 83 [Po (gz f h).l] (.int .i64 ((ZX.N (gz f h):Int)-1)):=kX (gz f h).l (by show ZX.N (gz f h)<_;omega)
 have key:=common I.nf I'.nf I.cop I'.cop (by omega) (by omega) A B dK hlq l1 l2 l3 r1 r2 r3
 obtain⟨w1,S1⟩:=vC (h:=h) I.nf I.cop
 have sn:=S1.N
 have hg:=PA S1.ng.ne S1.sg (by omega)
 have Y7:=PA S1.nw.ne S1.sw (by omega)
 have hv:vt (bK f) p.1=vt (bK f) p.2+1:=by
  rcases A.k with ⟨h,_⟩ | ⟨_,h⟩
  ·exact absurd h h1
  ·exact h
 have hH:dI (lo.num*(hi.den:Int)) (hi.num*(lo.den:Int))<0→(0:Int)<(ZX.N (gz f h):Int)-1→aE env.P 195 [Po (gz f h).l,RT lo,RT hi] (.bool (decide (vt (bK (gz f h)) hi<vt (bK (gz f h)) lo))):=fun z1 z2=>by
  obtain⟨sg,ng,IGG,S7⟩:=IG (by omega)
  have hlh:=zl.1 z1
  have c1:=S1.P5 A.S hg Y7 (Rat.le_of_lt hlh)
  have m1:=Y7.cR (Rat.le_of_lt hlh)
  have v1:=A.S.cR l2
  have v2:=A.S.cR r2
  exact XG IGG S7 hlh (by omega) ql qh hU
 have hgc:vt (bK (gz f h)) hi<vt (bK (gz f h)) lo→lo<hi→2≤ZX.N (gz f h):=fun hz hlh=>Nat.not_lt.1 fun h2=>by
  obtain⟨d,hd,e⟩:=ZX.lJ (x:=gz f h) (by have:=ZX.aF.1 S1.ng.ne;omega)
  rw [e]at hz hg
  have:=hg.const hlh (σ:=b6 (d:Rat)) (.inr (by rw [AK])) (fun x _ _=>by rw [AK])
  omega
 by_cases PM:∀x,dF f p x↔dF h q x
 ·obtain⟨c1,c2⟩:=key.2 PM
  rw [ait.2 PM]
  have c3:=hgc c2 c1
  refine XJ (v:=GA f p) (w:=GA h q) (hn:=hi.num) (hd:=(hi.den:Int)) Nx Ny P1 P2 kM kD BP kL (fun _=>hG) (fun _=>hD) hH (fun _=>rfl) (fun hno=>?_) ⟨_,_,_,_,rfl⟩ ⟨_,_,_,_,rfl⟩
  exact absurd ⟨zl.2 c1,by omega,decide_eq_true c2⟩ hno
 ·have hno:¬(dI (lo.num*(hi.den:Int)) (hi.num*(lo.den:Int))<0∧(0:Int)<(ZX.N (gz f h):Int)-1∧decide (vt (bK (gz f h)) hi<vt (bK (gz f h)) lo)=true):=fun⟨z1,_,z3⟩=>PM (key.1 ⟨zl.1 z1,of_decide_eq_true z3⟩)
  obtain⟨M,R,hM1,hM2⟩:=HR (u:=u+u') (ad:=p.1.den) (bd:=p.2.den) (cd:=q.1.den) (dd:=q.2.den) I.ch.bz I'.ch.bz (by omega) (by omega) (by omega) (by omega) (Nat.lt_of_lt_of_le (iZ (b:=2) (by decide) p.1.num) (Nat.pow_le_pow_right (by decide) a1.n2)) (Nat.lt_of_lt_of_le (iZ (b:=2) (by decide) p.2.num) (Nat.pow_le_pow_right (by decide) a2.n2)) (Nat.lt_of_lt_of_le (iZ (b:=2) (by decide) q.1.num) (Nat.pow_le_pow_right (by decide) b1.n2)) (Nat.lt_of_lt_of_le (iZ (b:=2) (by decide) q.2.num) (Nat.pow_le_pow_right (by decide) b2.n2)) (by omega)
  have zf:=HQ I.ch.bz
  have zh:=HQ I'.ch.bz
  have hMb:4*(ZX.N f+ZX.N h)*(zs f+zs h+(ZX.N f+ZX.N h)+8)≤4*16*(100000+100000+16+8):=Nat.mul_le_mul (by omega) (by omega)
  obtain⟨J,hJ,iX,hj⟩:=ae7 a b PM dK hlq hM1
  obtain⟨D,hD1,GZ,g1,g2⟩:=PE a1 a2
  obtain⟨D',avK,avL,g3,g4⟩:=PE b1 b2
  have spec:=xJ A B g1 g2 g3 g4
  have hV:3*(u+u')+M+2≤1000000000:=by omega
  have sqj:=fun j (hjM:j≤M)=>ak3 (M:=M) hD1 GZ (spec j).2.2.2.2.1 (spec j).2.2.2.2.2.1 hjM
  have avM:=fun j (hjM:j≤M)=>ak3 (M:=M) avK avL (spec j).2.2.2.2.2.2.1 (spec j).2.2.2.2.2.2.2 hjM
  obtain⟨J1,J2,_⟩:=sqj J (by omega)
  obtain⟨J3,J4,_⟩:=avM J (by omega)
  have c1:=cZ J2.nL J2.dL J3.nL J3.dL (by omega) (aY (st f h p q J).1.2) (aY (st f h p q J).2.1) ⟨J2.nL,J2.dL⟩ ⟨J3.nL,J3.dL⟩
  have c2:=cZ J4.nL J4.dL J1.nL J1.dL (by omega) (aY (st f h p q J).2.2) (aY (st f h p q J).1.1) ⟨J4.nL,J4.dL⟩ ⟨J1.nL,J1.dL⟩
  have PJ:=kA (x:=f.l) J1 J2 hV
  have PJ':=kA (x:=h.l) J3 J4 hV
  obtain⟨s1,s2,s3,s4,_⟩:=spec J
  have hsJ:¬ ∀x,dF f (st f h p q J).1 x↔dF h (st f h p q J).2 x:=fun hh=>PM fun x=>((s3 x).symm.trans (hh x)).trans (s4 x)
  have both:∀ {z:Rat},(st f h p q J).1.2≤(st f h p q J).1.1→(st f h p q J).2.2≤(st f h p q J).2.1→(st f h p q J).1.1=z→(st f h p q J).2.1=z→False:=fun {z} e1 e2 e3 e4=>hsJ fun x=>by
   have i1:=s1.le
   have i2:=s2.le
   rw [qR (by grind) x,qR (by grind) x,e3,e4]
  have hc:(dI ((st f h p q J).1.2.num*((st f h p q J).2.1.den:Int)) ((st f h p q J).2.1.num*((st f h p q J).1.2.den:Int))≤0∧cu (dF f p) (dF h q) = -1)∨(0<dI ((st f h p q J).1.2.num*((st f h p q J).2.1.den:Int)) ((st f h p q J).2.1.num*((st f h p q J).1.2.den:Int))∧dI ((st f h p q J).2.2.num*((st f h p q J).1.1.den:Int)) ((st f h p q J).1.1.num*((st f h p q J).2.2.den:Int))≤0∧cu (dF f p) (dF h q)=1):=by
   rw [←EF s3 s4]
   by_cases h3:(st f h p q J).1.2≤(st f h p q J).2.1
   ·exact .inl ⟨pV.2 h3,aiE (fun s t=>s1.up) lA (fun t=>lo_le s2) h3 hsJ⟩
   ·exact .inr ⟨fN.2 (Rat.not_le.1 h3),pV.2 (iX.resolve_left h3),aiF (fun s t=>s2.up) lA (fun t=>lo_le s1) (iX.resolve_left h3) hsJ⟩
  have W:=T7 (an:=fun j=>(st f h p q j).1.1.num) (ad:=fun j=>(st f h p q j).1.1.den) (bn:=fun j=>(st f h p q j).1.2.num) (bd:=fun j=>(st f h p q j).1.2.den) (cn:=fun j=>(st f h p q j).2.1.num) (cd:=fun j=>(st f h p q j).2.1.den) (dn:=fun j=>(st f h p q j).2.2.num) (dd:=fun j=>(st f h p q j).2.2.den) R (by omega) (fun j hjJ=>by
   obtain⟨J1,J2,J12⟩:=sqj j (by omega)
   obtain⟨J3,J4,J34⟩:=avM j (by omega)
   obtain⟨m1,m2⟩:=not_or.1 (hj j hjJ)
   have c1:=cZ J2.nL J2.dL J3.nL J3.dL (by omega) (aY (st f h p q j).1.2) (aY (st f h p q j).2.1) ⟨J2.nL,J2.dL⟩ ⟨J3.nL,J3.dL⟩
   have c2:=cZ J4.nL J4.dL J1.nL J1.dL (by omega) (aY (st f h p q j).2.2) (aY (st f h p q j).1.1) ⟨J4.nL,J4.dL⟩ ⟨J1.nL,J1.dL⟩
   have d1:=HS (J2.LLs (Nat.le_refl _)) (J1.LLs (Nat.le_refl _)) (by omega)
   have d2:=HS (J4.LLs (Nat.le_refl _)) (J3.LLs (Nat.le_refl _)) (by omega)
   have w1:=(afa hD1 GZ (spec j).2.2.2.2.1 (spec j).2.2.2.2.2.1).mono (show u+u'+1+2*(u+u')+j+1≤3*(u+u')+M+2 by omega)
   have w2:=(afa avK avL (spec j).2.2.2.2.2.2.1 (spec j).2.2.2.2.2.2.2).mono (show u+u'+1+2*(u+u')+j+1≤3*(u+u')+M+2 by omega)
   have c3:=cZ w1.nL w1.dL w2.nL w2.dL (by omega) (aY ((st f h p q j).1.2-(st f h p q j).1.1)) (aY ((st f h p q j).2.2-(st f h p q j).2.1)) ⟨w1.nL,w1.dL⟩ ⟨w2.nL,w2.dL⟩
   have H1:=EH I (by omega) (spec j).1 J1 J2 J12 hV
   have H2:=EH I' (by omega) (spec j).2.1 J3 J4 J34 hV
   refine⟨⟨_,c1,fN.2 (Rat.not_le.1 m1)⟩,⟨_,c2,fN.2 (Rat.not_le.1 m2)⟩,_,_,_,_,_,d1,d2,c3,?_⟩
   have e1:st f h p q (j+1)=if (st f h p q j).2.2-(st f h p q j).2.1≤(st f h p q j).1.2-(st f h p q j).1.1 then(vG f (st f h p q j).1,(st f h p q j).2)else((st f h p q j).1,vG h (st f h p q j).2):=rfl
   by_cases hw:(st f h p q j).2.2-(st f h p q j).2.1≤(st f h p q j).1.2-(st f h p q j).1.1
   ·rw [if_pos hw]at e1
    rw [if_pos (Int.not_lt.1 fun hh=>absurd (fO.1 hh) (Rat.not_lt.2 hw)),e1]
    exact⟨H1,rfl⟩
   ·rw [if_neg hw]at e1
    rw [if_neg (Int.not_le.2 (fO.2 (Rat.not_le.1 hw))),e1]
    exact⟨H2,rfl⟩) hJ c1 c2 PJ PJ' (fun ⟨e1,e2,e3⟩=>both (of_decide_eq_true e1) (of_decide_eq_true e2) (z:=(st f h p q J).2.1) (by
   have i1:=s1.le
   have i4:=of_decide_eq_true e1
   have:=lB.1 e3
   grind) rfl) (fun ⟨e1,e2,e3⟩=>both (of_decide_eq_true e1) (of_decide_eq_true e2) (z:=(st f h p q J).1.1) rfl (by
   have i2:=s2.le
   have i4:=of_decide_eq_true e2
   have:=lB.1 e3
   grind)) hc
  refine XJ (hn:=hi.num) (hd:=(hi.den:Int)) Nx Ny P1 P2 kM kD BP kL (fun _=>hG) (fun _=>hD) hH (fun hh=>absurd hh hno) (fun _=>W) ⟨_,_,_,_,rfl⟩ ⟨_,_,_,_,rfl⟩
end Go.Proofs.YtiobceocpabjdaaGreat
namespace Go.Proofs.YtiobceocpabjdaaGreat
open Go Pm
theorem ak4(a b:ZX):DX [a,b]=gz a b:=by
 show gz (gz 0 a) b=_
 rw [OL,WD]
theorem avN(a:ZX):DX [a]=nf a:=by
 show gz 0 a=_
 rw [OL]
theorem ao4{C n s:Nat}{a c:ZX}(ha:ZX.N a≤n)(hc:ZX.N c≤n)(h:(s+n+1)*2*4^n≤C):AJ C n s (nf a) (nf c):=by
 unfold AJ
 rw [yE,yE]
 have h1:∀k,k≤n→(s+n+1)*2*4^k≤C:=fun k hk=>Nat.le_trans (Nat.mul_le_mul_left _ (Nat.pow_le_pow_right (by decide) hk)) h
 split
 ·refine Nat.le_trans (Nat.mul_le_mul_right _ ?_) (h1 _ ha)
  omega
 ·exact h1 _ hc
structure Eu(s n:Nat):Prop where
 hn:n≤20
 hs:1≤s
 hC:(s+n+1)*2*4^n≤4500000000
theorem Eu.two{s n:Nat}(h:Eu s n){a c:ZX}(ba:BZ s n a)(bc:BZ s n c):aE env.P 142 [Po a.l,Po c.l] (Po (gz a c).l):=WL ba bc (ao4 ba.N bc.N h.hC) h.hn (Nat.le_refl _)
theorem aiG(s n:Nat):BZ s n 0:=⟨Nat.zero_le _,fun c hc=>by cases hc⟩
theorem Eu.aij{s n:Nat}(h:Eu s n){a c:ZX}(ba:BZ s n a)(bc:BZ s n c):aE env.P 194 [.sl [[Po a.l],[Po c.l]]] (Po (gz a c).l):=by
 have:=ah5 [a,c] (by simp) (fun i hi=>by
  match i,hi with
  | 0,_=>exact h.two (aiG s n) ba
  | 1,_ =>
   have e:DX ([a,c].take 1)=nf a:=avN a
   rw [e]
   have:=h.two ba.nf bc
   rw [show DX ([a,c].take (1+1))=gz (nf a) c from by rw [WD];exact ak4 a c]
   exact this)
 rw [ak4]at this
 exact this
end Go.Proofs.YtiobceocpabjdaaGreat
namespace Go.Proofs.YtiobceocpabjdaaGreat
open Go Pm
open ZX hiding N W
theorem XK{s n:Nat}{f:ZX}{p:Rat × Rat}(I:pU s n f)(hs:s≤100000)(n8:ZX.N f≤8)(hp:p∈KU s n f):AN s n (uu s) f p∧AN s n (uu s) f (ex f p):=by
 obtain⟨a1,a2,a3,a4,a5,a6⟩:=I.ivs.mem _ hp
 obtain⟨_,_,b1,b2,b3⟩:=I.root hp
 have hb:=KX I.nf (PK I.ch.bz)
 have h1:Ab p.1 (2^(zs f+1)):=by obtain⟨x,y⟩:=hb;exact⟨by grind,by grind⟩
 have h2:Ab p.2 (2^(zs f+1)):=by obtain⟨x,y⟩:=hb;exact⟨by grind,by grind⟩
 have hu:uu s≤30000000:=by unfold uu;omega
 refine⟨⟨I,hs,⟨I.S, .inr ⟨a4,a6⟩⟩,a1,a2,hu,n8,fun _=>h1,fun _=>h2⟩,⟨I,hs,b1,b2,b3,hu,n8,fun _=>?_,fun _=>?_⟩⟩
 ·unfold ex
  split
  ·exact h2
  ·exact h1
 ·unfold ex
  split<;>exact h2
theorem XL(t:Rat):Nf (dD t):=by
 have hd:=t.den_pos
 refine⟨ZX.aF.2 (by rw [k9];decide),?_,?_⟩
 ·rw [sO]
  unfold bO
  simp only [List.foldl_cons,List.foldl_nil,Nat.gcd_zero_left,Int.natAbs_neg,Int.natAbs_natCast]
  exact t.reduced
 ·rw [sO]
  show 0<nth [-t.num,(t.den:Int)] 1
  show(0:Int)<(t.den:Int)
  omega
theorem afb(t:Rat):uI (dD t) (bY (dD t)):=fun d _ h2=>by
 rw [aeV]at h2
 have hd:=t.den_pos
 have:=h2.nQ (ZX.pR (show (t.den:Int)≠0 by omega))
 rwa [ZX.N_K (show (t.den:Int)≠0 by omega)]at this
theorem PN{t:Rat}{s n:Nat}(sb:t.num.natAbs≤30∧((t.den:Int)).natAbs≤6)(hs:5≤s)(hn:2≤n)(h1:n≤20)(h2:n+1≤2^s)(h3:(qb s n+n+6)*4^n≤4500000000)(h4:s≤5000000):pU s n (dD t):=by
 have bz:BZ s n (dD t):=⟨by show ZX.N (dD t)≤_;rw [k9];exact hn,fun c hc=>by
  rw [sO]at hc
  simp only [List.mem_cons,List.not_mem_nil,or_false]at hc
  refine Nat.le_trans (iP (k:=5) ?_) hs
  rcases hc with rfl | rfl<;>omega⟩
 exact⟨⟨bz,h1,h2,h3⟩,by omega,XL t,KV (XL t) (afb t),h4⟩
theorem avO{s n:Nat}{f:ZX}{t:Rat}(I:pU s n f)(hs:s≤100000)(n8:ZX.N f≤8)(h0:e t f=0){u:Nat}(q:SQ u t)(hu:u≤30000000):AN s n u f (t,t)∧Ex f (t,t):=
 ⟨⟨I,hs,⟨I.S, .inl ⟨rfl,h0⟩⟩,q,q,hu,n8,fun h=>absurd h Rat.lt_irrefl,fun h=>absurd h Rat.lt_irrefl⟩,fun _=>rfl⟩
theorem z6(t:Rat):e t (dD t)=0:=by rw [KG];grind
structure SzC(s n S k:Nat):Prop where
 h1:(qb (qb s n) n+n+6)*4^n≤4500000000
 h2:qb s n≤1000000
 hE:(max s (S+5*k)+max n k+1)*2*4^max n k≤4500000000
 hL:(qb (S+5*k) k+k+6)*4^k≤4500000000
 hk:1≤k
 h8:k≤8
 hS:k+1≤2^(S+5*k)
 hS2:S+5*k≤100000
theorem SzC.lay{s n S k:Nat}(z:SzC s n S k){q:ZX}(bq:BZ (S+5*k) k q):rG (S+5*k) k q:=⟨bq,by have:=z.h8;omega,z.hS,z.hL⟩
theorem SzC.s1{s n S k:Nat}(z:SzC s n S k):1≤S+5*k:=by have:=z.hk;omega
theorem SzC.eu{s n S k:Nat}(z:SzC s n S k)(hn:n≤20):Eu (max s (S+5*k)) (max n k):=⟨by have:=z.h8;omega,by have:=z.s1;omega,z.hE⟩
section
variable {s n u S k:Nat} {f:ZX} {p:Rat × Rat} (a:AN s n u f p) (z:SzC s n S k)
include a z
theorem AN.sgC{q:ZX}(bq:BZ (S+5*k) k q):SgC (S+5*k) k f q:=by
 have I:=a.I
 have L:=z.lay bq
 have E:=z.eu I.ch.hn
 refine⟨bq,z.hS2,by have:=z.h8;omega,by have:=bq.N;have:=z.h8;omega,E.aij (bq.mono (by omega) (by omega)) (I.ch.bz.mono (by omega) (by omega)),fun _=>⟨_,_,ae9 I q z.h1 (by have:=z.h2;omega),z.h2⟩,fun h0=>⟨_,_,L.ch h0 z.hk⟩,fun h0=>KB (u3 L) (L.ch h0 z.hk) (D2 h0).1⟩
end
theorem AN.sg0{s n u:Nat}{f:ZX}{p:Rat × Rat}(a:AN s n u f p):sgU (dF f p) 0=0:=(show SgU (dF f p) 0 0 from .inl ⟨rfl,PG (fT a.A)⟩).eq (fT a.A)
noncomputable def afU(U:Rat→Prop)(q:ZX):Int:=XE (sgU U) (ZX.N q) q
section
variable {s n u S k:Nat} {f:ZX} {p:Rat × Rat} (a:AN s n u f p) (z:SzC s n S k) {q:ZX} (bq:BZ S k q)
include a z bq
theorem AN.at:aE env.P 185 [Po q.l,GA f p] (.int .i64 (afU (dF f p) q)):=
 aiB (sgU (dF f p)) a.sg0 bq (by have:=z.h8;omega) (by have:=z.hS2;omega) fun r s' AQ br=>a.sg (a.sgC z (br.mono AQ (Nat.le_refl _)))
end
theorem afc{x:List Int}{c:List ZX}{an ad bn bd:Int}(hT:aE env.P 100 [PI x] (Po x))(h1:aE env.P 23 [R2 an ad] (T2 an ad))(h2:aE env.P 23 [R2 bn bd] (T2 bn bd)):aE env.P 29 [.ag (A10 x c an ad bn bd)] (.ag (G9 x an ad bn bd)):=by
 simp only [A10,G9]
 refine cD [(0, .ag (A10 x c an ad bn bd))] Tryz.func29 ?_
 refine aA [1,2] ?_
 refine nU ?_
 refine cS hT ?_
 refine cS h1 ?_
 refine aC h2 ?_
 (try (refine bA (of_decide_eq_true (by kernel_rfl)) ?_));(try simp (maxSteps:=4000000) (disch:=omega) [gw]);(repeat rw [if_pos (by kernel_rfl)]);(try simp (maxSteps:=4000000) (disch:=omega) [gw])
 refine bH [2] ?_
 exact cC
theorem AN.toA{s n u:Nat}{f:ZX}{p:Rat × Rat}(a:AN s n u f p):aE env.P 29 [QA f (bK f) p] (GA f p):=by
 have hu:=a.hu
 have h1:=a.q1.tor (show u≤137438953472 by omega)
 have h2:=a.q2.tor (show u≤137438953472 by omega)
 rw [gC]at h1 h2
 exact afc (WU a.I.ch.bz (by have:=a.hs;omega) (by have:=a.I.ch.hn;omega)) h1 h2
theorem aaL{x:List Int}{an ad bn bd:Int}(h:aE env.P 192 [.ag (G9 x an ad bn bd)] (.ag (G9 x an ad bn bd))):aE env.P 198 [.ag (G9 x an ad bn bd)] (.ag (G9 x an ad bn bd)):=by
 simp only [G9]at *
 refine cD [(0, .ag (G9 x an ad bn bd))] Tryz.func198 ?_
 refine aA [1,2] ?_
 refine aR [2] h ?_
 exact cC
theorem aaM:aE env.P 112 [.sl []] (.dU [ae8, .bool false]):=by
 refine cD [(0, .sl [])] Tryz.func112 ?_
 refine aA [0,2] ?_
 refine aQ [0,2,9] ?_
 refine bJ ?_ ?_<;>intro h
 ·refine aA [2,3] ?_
  exact cC
 ·simp at h
theorem T9{x y:List Int}{f:ZX}{L:List (Rat × Rat)}{an ad bn bd:Int}{k:Nat}(hT:aE env.P 255 [Po x] (aJ (ga f) L))(hl:L.length<1000000)(hk:k≤L.length)(hb:∀i,i<k → ∃z:Int,aE env.P 110 [GA f (nth L i), .ag (G9 y an ad bn bd)] (.int .i64 z)∧¬0<z)(hc:k<L.length → ∃z:Int,aE env.P 110 [GA f (nth L k), .ag (G9 y an ad bn bd)] (.int .i64 z)∧0<z) :
  aE env.P 206 [Po x, .ag (G9 y an ad bn bd)] (.dU [if k<L.length then GA f (nth L k)else ae8, .bool (decide (k<L.length))]):=by
 simp only [G9]at *
 refine cD [(0,Po x),(1, .ag (G9 y an ad bn bd))] Tryz.func206 ?_
 refine aA [0,3,4] ?_
 refine W.seq ?_
 refine aR [3,4,9,10,11] hT ?_
 refine W.block ?_
 refine W.bE (fun m σ=>∃(i v3 v4:Nat) (rows:Pm.Rows) (clk:Nat),σ=⟨fa [(3, .ptr 3 v3 0 0),(4, .ptr 4 v4 0 0),(9,aJ (ga f) L),(10, .int .i64 L.length),(11, .int .i64 i)],rows,clk⟩∧rows 3=some ⟨v3,54,9,[G9 y an ad bn bd]⟩∧rows 4=some ⟨v4,54,9,[[.nil, .bool false, .nil, .bool false, .nil, .bool false, .nil, .bool false, .nil]]⟩∧i+m=k) k ?_ ?_
 ·exact⟨_, .refl,0,_,_,_,_,rfl,by simp,by simp,by omega⟩
 rintro m _ ⟨i,v3,v4,rows,clk,rfl,cH,c9,him⟩
 simp only [G9]at cH
 refine bU [3,4,9,10,11,12] ?_
 refine bJ ?_ ?_<;>intro h
 ·have hi:i<L.length:=by simp at h;omega
  refine lF ?_
  refine W.sr ?_
  simp (disch:=omega) [gw,hi]
  refine bH [3,4,7,9,10,11] ?_
  by_cases zH:i<k
  ·obtain⟨z,hz,n6⟩:=hb i zH
   simp only [GA,ga,List.cons_append,List.nil_append]at hz
   refine W.sr ?_
   simp (disch:=omega) [gw,cH]
   refine cN [3,4,7,9,10,11,18] hz ?_
   refine bJ ?_ ?_<;>intro h
   ·exfalso;simp at h;exact n6 h
   refine W.skip ?_
   refine W.b7 (fun K hK=>?_);simp (disch:=omega) [gw]
   refine hK _ ⟨m-1,_,aB _ [3,4,9,10,11],by omega,i+1,_,_,_,_,rfl,by simp [cH],by simp [c9],by omega⟩
  ·have aAV:i=k:=by omega
   subst aAV
   obtain⟨z,hz,n6⟩:=hc hi
   simp only [GA,ga,List.cons_append,List.nil_append]at hz
   rw [if_pos hi,decide_eq_true hi]
   refine W.sr ?_
   simp (disch:=omega) [gw,cH]
   refine cN [3,4,7,9,10,11,18] hz ?_
   refine bJ ?_ ?_<;>intro h
   ·refine W.sr ?_
    simp (disch:=omega) [gw,c9]
    refine bH [4,5] ?_
    exact cC
   ·exfalso;simp at h;omega
 ·have hi:i=L.length:=by simp at h;omega
  have hkL:k=L.length:=by omega
  rw [if_neg (by omega),decide_eq_false (by omega)]
  refine fA ?_
  refine W.sr ?_
  simp (disch:=omega) [gw,c9]
  refine bH [4,5] ?_
  exact cC
def nxo:Option (ZX × Rat × Rat)→PV
 | none => .dU [ae8, .bool false]
 | some e => .dU [.ag (gg e), .bool true]
structure CpC(s n s' n':Nat):Prop where
 hE:(max s s'+max n n'+1)*2*4^max n n'≤4500000000
 h1:(qb (qb s n) n+n+6)*4^n≤4500000000
 h2:qb s n≤1000000
 h3:(qb (qb s' n') n'+n'+6)*4^n'≤4500000000
 h4:qb s' n'≤1000000
 hS:max s s'≤20000
 h20:max n n'≤20
section
variable {s n u s' n' u':Nat} {f h:ZX} {p q:Rat × Rat} (a:AN s n u f p) (b:AN s' n' u' h q) (c:CpC s n s' n')
include a b c
theorem AN.aAW:aE env.P 110 [GA f p,GA h q] (.int .i64 (cu (dF f p) (dF h q))):=
 have E:Eu (max s s') (max n n'):=⟨c.h20,by have:=a.I.s1;omega,c.hE⟩
 a.cmp b (E.aij (a.I.ch.bz.mono (by omega) (by omega)) (b.I.ch.bz.mono (by omega) (by omega))) fun _=>⟨_,_,ae9 b.I f c.h3 (by have:=c.h4;omega),c.h4⟩
end
def nxt(f:ZX)(L:List (Rat × Rat))(k:Nat):Option (ZX × Rat × Rat):=if k<L.length then some (f,nth L k)else none
section
variable {U V:Rat→Prop} (hU:∀s t,U s→s≤t→U t) (hV:∀s t,V s→s≤t→V t)
include hU hV
theorem afd:0<cu U V ↔ ∃t,V t∧¬U t:=by
 unfold cu
 split
 ·rename_i h
  obtain⟨t1,h1,h2⟩:=h
  refine⟨fun h=>absurd h (by decide),fun⟨t2,h3,h4⟩=>?_⟩
  by_cases h5:t1≤t2
  ·exact absurd (hU _ _ h1 h5) h4
  ·exact absurd (hV _ _ h3 (by grind)) h2
 ·split
  ·rename_i h;exact⟨fun _=>h,fun _=>by decide⟩
  ·rename_i h;exact⟨fun h1=>absurd h1 (by decide),fun h1=>absurd h1 h⟩
end
structure Idx(f:ZX)(L:List (Rat × Rat))(U:Rat→Prop)(k:Nat):Prop where
 le:k≤L.length
 lt:∀i,i<k→¬0<cu (dF f (nth L i)) U
 gt:k<L.length→0<cu (dF f (nth L k)) U
theorem Idx.mono{f:ZX}{L:List (Rat × Rat)}{U U':Rat→Prop}{k k':Nat}(hf:∀i,i<L.length → ∀s t,dF f (nth L i) s→s≤t→dF f (nth L i) t)(hU:∀s t,U s→s≤t→U t)(hU':∀s t,U' s→s≤t→U' t)(h:Idx f L U k)(h':Idx f L U' k')(hs:∀t,U' t→U t):k≤k':=Nat.not_lt.1 fun hk=>by
 have hl:k'<L.length:=by have:=h.le;omega
 obtain⟨t,h1,h2⟩:=(afd (hf _ hl) hU').1 (h'.gt hl)
 exact h.lt k' hk ((afd (hf _ hl) hU).2 ⟨t,hs t h1,h2⟩)
theorem aiH{n d:Int}(hM:aE env.P 90 [T2 n d, .sl []] (T2 n d))(hg:aE env.P 148 [I n] (I (-n))):aE env.P 113 [T2 n d] (.ag (G9 [-n,d] n d n d)):=by
 simp only [G9]
 refine cD [(0,T2 n d)] Tryz.func113 ?_
 refine aA [1,2] ?_
 refine aR [1,2] hM ?_
 refine nU ?_
 refine cS hg ?_
 refine cN [2] hM ?_
 refine W.ret ?_
 simp [go]
 rw [show Po [-n,d] = .sl [ie (-n),ie d]from rfl]
 simp [ie]
def unx:PV→PV
 | .iR l => .sl l
 | p=>p
theorem aiI{c:Cx}{p:PV}{v:Value}(h:aG c p v):aG c (unx p) v:=by
 cases p with
 | iR l=>exact U9 h
 | _=>exact h
theorem g9.iR{P:Program}{g:FuncId}{args:List PV}{e:TypeId}{n:Nat}{core eA:List PV}{r:PV}(h:g9 P g (args.map unx) e n core eA r):g9 P g args e n core eA r:=by
 intro id ver rows clk h1 h2 h3
 obtain⟨h4,h5⟩:=h id ver rows clk h1 h2 h3
 refine⟨h4,fun w0 S0 c vs G hI hr gB fM hG=>h5 w0 S0 c vs G hI hr gB ?_ hG⟩
 refine bC.cT (by simpa using fM.length) fun i a b ha hb=>?_
 cases i with
 | zero =>
  simp at ha
  subst ha
  obtain⟨b',jX,tL⟩:=fM.get (k:=0) (a:=.ptr id ver 0 0) (by simp)
  rw [hb]at jX;cases jX
  exact tL
 | succ i =>
  simp only [List.getElem?_cons_succ,List.getElem?_map,Option.map_eq_some_iff]at ha
  obtain⟨a',K3,rfl⟩:=ha
  obtain⟨b',jX,tL⟩:=fM.get (k:=i+1) (a:=a') (by simpa using K3)
  rw [hb]at jX;cases jX
  exact aiI tL
theorem HT:([.bool false, .nil, .bool false, .nil, .bool false, .nil, .bool false, .nil, .bool false, .nil, .nil, .int .i64 0]:List PV)=co false A9.no true [] 0:=rfl
theorem KZ{n1 d1 n2 d2 an ad bn bd:Int}{x y:List Int}{C1 C2:List ZX}{t r:A9}{L:List WE}
  (h1:aE env.P 12 [.int .i64 0, .int .i64 1] (R2 n1 d1)) (h2:aE env.P 41 [R2 n1 d1] (AP x C1 n1 d1)) (h3:aE env.P 29 [AP x C1 n1 d1] (.ag (b9 t)))
  (h4:aE env.P 97 [.sl [[.int .i64 (-1)],[.int .i64 1]]] (PI [-1,1])) (h5:aE env.P 100 [PI [-1,1]] (Po [-1,1]))
  (hB:g9 env.P 42 [.ag (b9 t),aJ kV [⟨⟨0,0,0,0,0⟩,false,[-1,1], -1⟩]] 95 12 (co false A9.no true [] 0) (co true t false L 0) (.dU []))
  {M:List WE} (hX:g9 env.P 51 [] 95 12 (co true t false L 0) (co true t false M 0) (.dU [.ag (b9 r), .bool true]))
  (h6:aE env.P 20 [.ag (b9 r)] (.ag (A10 y C2 an ad bn bd))) (h7:aE env.P 12 [.int .i64 1, .int .i64 1] (R2 n2 d2)) (h8:aE env.P 19 [.ag (A10 y C2 an ad bn bd),R2 n2 d2] (.int .i64 0)) :
  aE env.P 45 [] (.bool true):=by
 have QT:=jM false A9.no true [] 0
 have hp1:=jM true t false L 0
 have P4:=jM true t false M 0
 have hE:g9 env.P 44 [] 95 12 (co true t false M 0) (co true t false M 0) (.int .i64 0):=DG
 have hq:aJ kV [⟨⟨0,0,0,0,0⟩,false,[-1,1], -1⟩] = .sl [[.int .i64 0, .int .i64 0, .int .i64 0, .int .i64 0, .int .i64 0,Po [-1,1], .int .i64 (-1)]]:=rfl
 rw [hq]at hB
 simp only [fG,A10,A9.no]at *
 refine cD [] Tryz.func45 ?_
 refine aA [] ?_
 refine aA [1] ?_
 refine jC ?_
 refine cS h1 ?_
 refine cS h2 ?_
 refine cS h3 ?_
 refine cS h4 ?_
 refine cS h5 ?_
 refine bA (fun p hp=>by rcases hp with (h|h)|h<;>subst h<;>simp) ?_
 simp (disch:=omega) [gw]
 refine nI (g9.iR (args:=[.ag [.sl t.y, .bool t.s, .sl t.d, .bool t.s', .sl t.d', .bool t.u, .sl t.e, .bool t.u', .sl t.e'], .iR [[.int .i64 0, .int .i64 0, .int .i64 0, .int .i64 0, .int .i64 0,Po [-1,1], .int .i64 (-1)]]]) hB) rfl rfl QT hp1 (by simp [HT,A9.no]) ?_
 simp (disch:=omega) [gw]
 refine bH [1] ?_
 refine jC ?_
 refine nI hX rfl rfl hp1 P4 (by simp) ?_
 simp (disch:=omega) [gw]
 refine bH [1,2,3] ?_
 refine jC ?_
 refine cS h6 ?_
 refine cS h7 ?_
 refine cS h8 ?_
 refine nI hE rfl rfl P4 P4 (by simp) ?_
 simp (disch:=omega) [gw]
 refine bH [0] ?_
 exact cC
theorem aaN{q:Rat}{n:Nat}(h:q.num.natAbs≤n):Ab q (n:Rat):=by
 have hd:(1:Rat)≤((q.den:Int):Rat):=eH (by have:=q.den_pos;omega)
 have hq:((q.num:Int):Rat)=q*((q.den:Int):Rat):=by
  have h1:q=(q.num:Rat)/((q.den:Int):Rat):=by
   rw [←Rat.divInt_eq_div,Rat.num_divInt_den]
  have h2:=Rat.div_mul_cancel (a:=(q.num:Rat)) (b:=((q.den:Int):Rat)) (by grind)
  rw [←h1]at h2
  exact h2.symm
 have h3:((q.num:Int):Rat)≤(((n:Int):Int):Rat):=Rat.intCast_le_intCast.2 (by omega)
 have h4:(((-(n:Int)):Int):Rat)≤((q.num:Int):Rat):=Rat.intCast_le_intCast.2 (by omega)
 rw [Rat.intCast_neg]at h4
 have h5:(((n:Int):Int):Rat)=(n:Rat):=Rat.intCast_natCast n
 rw [h5]at h3 h4
 have h6:(0:Rat)≤(n:Rat):=Rat.natCast_nonneg
 generalize ((q.num:Int):Rat)=u at *
 generalize ((q.den:Int):Rat)=v at *
 generalize (n:Rat)=m at *
 have h7:=Rat.mul_le_mul_of_nonneg_left hd h6
 constructor
 ·refine Rat.not_lt.1 fun h=>?_
  have:=Rat.mul_le_mul_of_nonneg_left hd (show 0 ≤ -m-q by grind)
  grind
 ·refine Rat.not_lt.1 fun h=>?_
  have:=Rat.mul_le_mul_of_nonneg_left hd (show 0≤q-m by grind)
  grind
theorem BG(t:Rat):dD t≠0:=(O5 t).ne
theorem Bg.dD{a b r:Rat}(eW:a≤b)(h:r<a∨b<r):Bg a b (Go.Proofs.YtiobceocpabjdaaGreat.dD r):=by
 have e1:=fun s=>KG s r
 unfold Go.Proofs.YtiobceocpabjdaaGreat.dD at e1 ⊢
 have hd:(0:Rat)<((r.den:Int):Rat):=Rat.intCast_pos.2 (by have:=r.den_pos;omega)
 simp only [HE]at e1
 refine Bg.lin ?_
 rw [e1 a,e1 b]
 rcases h with h | h
 ·exact .inl ⟨Rat.mul_pos hd (by grind),Rat.mul_pos hd (by grind)⟩
 ·right
  have:=Rat.mul_pos hd (show 0<r-a by grind)
  have:=Rat.mul_pos hd (show 0<r-b by grind)
  exact⟨by grind,by grind⟩
structure Kz(T:List Rat)(p:ZX):Prop where
 GV:T.Pairwise (· < ·)
 ne:p≠0
 hN:ZX.N p=T.length+1
 hn:n1 p≤24^T.length
 rt:∀r∈T,e r p=0
 bg:∀a b,a≤b→(∀r∈T,r<a∨b<r)→Bg a b p
 rng:∀r∈T,r.num.natAbs≤20∧r.den≤3
 mu1:∀q,oX q→mu q p≤1
theorem Kz.nil:Kz [] (of [1]) where
 GV:=.nil
 ne:=ZX.aF.2 (by decide)
 hN:=by decide
 hn:=by decide
 rt:=fun _ h=>by cases h
 bg:=fun _ _ _ _=>Bg.K (c:=1) (by decide)
 rng:=fun _ h=>by cases h
 mu1:=fun q hq=>by
  show mu q (1:ZX)≤1
  rw [JT hq];decide
theorem HU{r:Rat}(h:r.num.natAbs≤20∧r.den≤3):n1 (dD r)≤24:=by
 unfold n1
 rw [sO]
 simp only [l1,List.map_cons,List.map_nil,List.sum_cons,List.sum_nil]
 omega
theorem aiJ{q:ZX}(hq:oX q)(r:Rat):mu q (dD r)≤1 ∧ ∀p:ZX,p≠0→e r p≠0→1≤mu q (dD r)→mu q p=0:=by
 have l0:=BG r
 refine⟨Nat.not_lt.1 fun h=>?_,fun p hp he h1=>?_⟩
 ·have h1:=(jF hq l0).1 (show 2≤mu q (dD r)by omega)
  have h2:=h1.nQ l0
  have h3:=adV hq 2
  rw [k9]at h2
  omega
 ·refine Nat.eq_zero_of_not_pos fun h2=>he ?_
  have e1:q^1=q:=by rw [pow_succ',eM];grind
  have d1:=(jF hq l0).1 h1
  have d2:=(jF hq hp).1 h2
  rw [e1]at d1 d2
  have hN:ZX.N q=2:=by
   have:=d1.nQ l0
   rw [k9]at this
   have:=hq.deg
   omega
  obtain⟨c,hc,s,hs⟩:=d1
  have s0:s≠0:=fun h=>by
   rw [h]at hs
   exact ZX.oW (ZX.pR hc) l0 (by rw [hs];grind)
  have hNs:ZX.N s=1:=by
   have:=congrArg ZX.N hs
   rw [ZX.lI (ZX.pR hc) l0,ZX.lI s0 hq.ne,hN,k9,ZX.N_K hc]at this
   omega
  have h3:e r s≠0:=fun h=>by
   have:=(KH.1 h).nQ s0
   rw [k9]at this
   omega
  have h4:e r q=0:=by
   have:=congrArg (e r) hs
   rw [iO,iO,z6,Rat.mul_zero]at this
   rcases Rat.mul_eq_zero.1 this.symm with h | h
   ·exact absurd h h3
   ·exact h
  obtain⟨c',EV,u,hu⟩:=d2
  have:=congrArg (e r) hu
  rw [iO,iO,h4,Rat.mul_zero,AK]at this
  rcases Rat.mul_eq_zero.1 this with h | h
  ·exact absurd (by exact_mod_cast h) EV
  ·exact h
theorem Kz.ins{T:List Rat}{p:ZX}(K:Kz T p){r:Rat}(hr:r.num.natAbs≤20∧r.den≤3){k:Nat}(h1:∀x∈T.take k,x<r)(h2:∀x∈T.drop k,r<x):Kz (T.take k++r::T.drop k) (p*dD r):=by
 have pG:∀x,x∈T.take k++r::T.drop k↔x=r∨x∈T:=fun x=>by
  simp only [List.mem_append,List.mem_cons]
  constructor
  ·rintro(h | h | h)
   ·exact .inr (List.mem_of_mem_take h)
   ·exact .inl h
   ·exact .inr (List.mem_of_mem_drop h)
  ·rintro(h | h)
   ·exact .inr (.inl h)
   ·rw [←List.take_append_drop k T]at h
    rcases List.mem_append.1 h with h | h
    ·exact .inl h
    ·exact .inr (.inr h)
 have hlen:(T.take k++r::T.drop k).length=T.length+1:=by
  have:=congrArg List.length (List.take_append_drop k T)
  simp only [List.length_append,List.length_cons]at this ⊢
  omega
 refine⟨?_,ZX.oW K.ne (BG r),?_,?_,fun x hx=>?_,fun a b eW h=>?_,fun x hx=>?_,fun q hq=>?_⟩
 ·have hs:=K.GV
  rw [←List.take_append_drop k T,List.pairwise_append]at hs
  obtain⟨s1,s2,s3⟩:=hs
  rw [List.pairwise_append]
  refine⟨s1,List.pairwise_cons.2 ⟨h2,s2⟩,fun a ha b hb=>?_⟩
  rcases List.mem_cons.1 hb with rfl | hb
  ·exact h1 a ha
  ·exact s3 a ha b hb
 ·rw [ZX.lI K.ne (BG r),K.hN,k9,hlen]
  omega
 ·rw [hlen,Nat.pow_succ]
  exact Nat.le_trans (aoO _ _) (Nat.mul_le_mul K.hn (HU hr))
 ·rw [iO]
  rcases(pG x).1 hx with rfl | hx
  ·rw [KG];grind
  ·rw [K.rt x hx,Rat.zero_mul]
 ·exact(K.bg a b eW fun x hx=>h x ((pG x).2 (.inr hx))).mul (Bg.dD eW (h r ((pG r).2 (.inl rfl))))
 ·rcases(pG x).1 hx with rfl | hx
  ·exact hr
  ·exact K.rng x hx
 ·obtain⟨m1,m2⟩:=aiJ hq r
  rw [sJ hq K.ne (BG r)]
  have h3:=K.mu1 q hq
  have he:e r p≠0:=fun h0=>by
   obtain⟨η,h4,h5⟩:=K.bg r r Rat.le_refl fun x hx=>by
    rw [←List.take_append_drop k T]at hx
    rcases List.mem_append.1 hx with hx | hx
    ·exact .inl (h1 x hx)
    ·exact .inr (h2 x hx)
   have:=h5 r Rat.le_refl Rat.le_refl
   rw [h0]at this
   unfold kE at this
   rcases this with h | h<;>grind
  rcases Nat.eq_zero_or_pos (mu q (dD r))with h4 | h4
  ·omega
  ·have:=m2 p K.ne he h4
   omega
theorem Kz.oz{T:List Rat}{p:ZX}(K:Kz T p):Go.Proofs.YtiobceocpabjdaaGreat.oz (nf p)=Go.Proofs.YtiobceocpabjdaaGreat.sq p:=by
 refine aeU (ad4 (jG K.ne)) (mM K.ne).1 fun q hq=>?_
 rw [akE (jG K.ne) hq,WB hq K.ne,(mM K.ne).2 q hq]
 have:=K.mu1 q hq
 omega
theorem p24{k:Nat}(h:k≤4):24^k≤331776:=by
 have:=Nat.pow_le_pow_right (show 0<24 by decide) h
 exact Nat.le_trans this (by decide)
theorem Kz.lay{T:List Rat}{p:ZX}(K:Kz T p)(h:T.length≤4):rG 19 5 p:=by
 have h1:=K.hn
 have h2:=p24 h
 have h3:=K.hN
 have e19:(2:Nat)^19=524288:=by decide
 exact⟨BZ.akV (by omega) (by omega),by decide,by decide,by decide⟩
theorem Kz.iso{T:List Rat}{p:ZX}(K:Kz T p)(h:T.length≤4):pU (qb 19 5) 5 (sq p):=aoU (K.lay h) K.ne (by decide) (by decide) (by decide)
theorem Kz.count{T:List Rat}{p:ZX}(K:Kz T p)(h:T.length≤4){a b:Rat}(eW:a<b):vt (bK (sq p)) a=vt (bK (sq p)) b+(T.countP fun r=>decide (a<r∧r≤b)):=by
 have h0:=K.ne
 have hG:=(K.lay h).KF h0 (by decide)
 refine hG.count (K.GV.imp fun h=>Rat.ne_of_lt h) (fun r hr=>(W5 h0).2 (K.rt r hr)) (fun a b eW hr=>?_) eW
 have key:∀a,a<b→(∀r∈T,r<a∨b<r)→vt (bK (sq p)) a=vt (bK (sq p)) b:=fun a eW h=>hG.bg ((K.bg a b (Rat.le_of_lt eW) h).dv (xA h0)) eW
 by_cases h1:e a (sq p)=0
 ·obtain⟨a',q1,q2,q3⟩:=hG.aaj eW h1
  rw [q3]
  rcases Rat.le_iff_lt_or_eq.1 q2 with h2 | rfl
  ·exact key a' h2 fun r tL=>by
    by_cases h3:a<r
    ·exact .inr (hr r tL h3)
    ·left;grind
  ·rfl
 ·refine key a eW fun r tL=>?_
  by_cases h3:a<r
  ·exact .inr (hr r tL h3)
  ·left
   refine Rat.lt_of_le_of_ne (Rat.not_lt.1 h3) fun h4=>h1 ?_
   rw [←h4]
   exact(W5 h0).2 (K.rt r tL)
theorem Kz.range{T:List Rat}{p:ZX}(K:Kz T p):∀r∈T, -20≤r∧r≤20:=fun r hr=>aaN (K.rng r hr).1
def gY(T:List Rat)(t:Rat):Nat:=T.countP fun r=>decide (r≤t)
theorem UA{T:List Rat}{t:Rat}:gY T t≤T.length:=List.countP_le_length
theorem Kz.level{T:List Rat}{p:ZX}(K:Kz T p)(h:T.length≤4):(∀t,vt (bK (sq p)) t+gY T t=vt (bK (sq p)) (-iC (sq p).l))∧vt (bK (sq p)) (iC (sq p).l)+T.length=vt (bK (sq p)) (-iC (sq p).l):=by
 have I:=K.iso h
 have hr:=K.range
 have c1:∀t:Rat, -100<t→vt (bK (sq p)) (-100)=vt (bK (sq p)) t+gY T t:=fun t ht=>by
  rw [K.count h ht]
  congr 1
  refine List.countP_congr fun r tL=>?_
  have:=hr r tL
  simp only [decide_eq_true_eq]
  exact⟨fun q=>q.2,fun q=>⟨by grind,q⟩⟩
 have c2:=c1 100 (by decide)
 have e2:gY T 100=T.length:=by
  unfold gY
  rw [List.countP_eq_length]
  intro r tL
  have:=hr r tL
  simp only [decide_eq_true_eq]
  grind
 have c3:=K.count h I.XA
 have c4:(T.countP fun r=>decide (-iC (sq p).l<r∧r≤iC (sq p).l))≤T.length:=List.countP_le_length
 have t1:=I.ak2 (-100)
 have t2:=I.avJ 100
 have e3:vt (bK (sq p)) (-100)=vt (bK (sq p)) (-iC (sq p).l):=by omega
 refine⟨fun t=>?_,by omega⟩
 by_cases ht : -100<t
 ·rw [←e3,c1 t ht]
 ·have a1:=I.S.cR (show t ≤ -100 by grind)
  have a2:=I.ak2 t
  have a3:gY T t=0:=by
   unfold gY
   rw [List.countP_eq_zero]
   intro r tL
   have:=hr r tL
   simp only [decide_eq_true_eq]
   grind
  omega
theorem mX{t:Rat}:∀ {T:List Rat} {i:Nat},T.Pairwise (· < ·)→i<T.length→(i+1≤gY T t↔nth T i≤t)
 | [],i,_,h=>by simp at h
 | r::T,i,hs,hi=>by
  obtain⟨s1,s2⟩:=List.pairwise_cons.1 hs
  unfold gY
  rw [List.countP_cons]
  by_cases hr:r≤t
  ·rw [if_pos (by simpa using hr)]
   cases i with
   | zero=>exact⟨fun _=>hr,fun _=>by omega⟩
   | succ i =>
    have:=mX (t:=t) s2 (show i<T.length by simpa using hi)
    unfold gY at this
    rw [show nth (r::T) (i+1)=nth T i by simp [nth],←this]
    omega
  ·rw [if_neg (by simpa using hr)]
   have h0:(T.countP fun r=>decide (r≤t))=0:=by
    rw [List.countP_eq_zero]
    intro x hx
    have:=s1 x hx
    simp only [decide_eq_true_eq]
    grind
   rw [h0]
   refine⟨fun h=>by omega,fun h=>absurd h ?_⟩
   have hm:=bN hi
   rcases List.mem_cons.1 hm with hm | hm
   ·rw [hm];exact hr
   ·have:=s1 _ hm;grind
theorem Kz.ao5{T:List Rat}{p:ZX}(K:Kz T p){i j:Nat}(hij:i<j)(hj:j<T.length):nth T i<nth T j:=by
 rw [bW (by omega),bW hj]
 exact List.pairwise_iff_getElem.1 K.GV i j (by omega) hj hij
theorem Kz.ao6{T:List Rat}{p:ZX}(K:Kz T p){i:Nat}(hi:i<T.length):gY T (nth T i)=i+1:=by
 have h1:=(mX (t:=nth T i) K.GV hi).2 Rat.le_refl
 by_cases h:i+1<T.length
 ·have h2:¬i+1+1≤gY T (nth T i):=fun h3=>by
   have h4:=(mX K.GV h).1 h3
   have h5:=K.ao5 (show i<i+1 by omega) h
   grind
  omega
 ·have:=UA (T:=T) (t:=nth T i)
  omega
theorem Kz.len{T:List Rat}{p:ZX}(K:Kz T p)(h:T.length≤4):(KU (qb 19 5) 5 (sq p)).length=T.length:=by
 have h1:=(K.iso h).ivs.len
 have h2:=(K.level h).2
 omega
theorem Kz.afe{T:List Rat}{p:ZX}(K:Kz T p)(h:T.length≤4){i:Nat}(hi:i<T.length)(t:Rat):dF (sq p) (nth ((KU (qb 19 5) 5 (sq p)).map (ex (sq p))) i) t↔nth T i≤t:=by
 have I:=K.iso h
 rw [I.T8 i (by rw [K.len h];exact hi),←mX K.GV hi]
 have:=(K.level h).1 t
 omega
end Go.Proofs.YtiobceocpabjdaaGreat
