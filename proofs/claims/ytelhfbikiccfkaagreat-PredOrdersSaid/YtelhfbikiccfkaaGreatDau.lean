import Derived.Test.YtelhfbikiccfkaaGreatDaq
import Derived.Test.YtelhfbikiccfkaaGreatDas
import Derived.Test.YtelhfbikiccfkaaGreatDat
set_option linter.unusedSimpArgs false
set_option linter.unusedVariables false
namespace Go.Proofs.YtelhfbikiccfkaaGreat
open Go Pm
open ZX hiding N W
def Ex(f:ZX)(p:Rat × Rat):Prop:=e p.2 f=0→p.1=p.2
theorem al5(f:ZX)(p:Rat × Rat):Ex f (ex f p):=by
 unfold Ex ex
 split
 ·intro _;rfl
 ·intro h;contradiction
theorem agd{f:ZX}{p:Rat × Rat}(A:jP f (vt (aR f)) p.1 p.2)(h:Ex f p):hv f p=vC f p∧Ex f (vC f p):=by
 unfold hv vC
 by_cases hp:p.1=p.2
 ·rw [if_pos hp,if_neg (by rw [hp];exact Rat.lt_irrefl)];exact⟨rfl,h⟩
 ·have c8:p.1<p.2:=by have:=A.le;grind
  have kQ:e p.2 f≠0:=fun h0=>hp (h h0)
  rw [if_neg hp,if_pos c8]
  obtain⟨m1,m2⟩:=pS c8
  generalize (p.1+p.2)/2=m at *
  by_cases h0:e m f=0
  ·have hv:vt (aR f) p.1=vt (aR f) p.2+1:=by
    rcases A.k with ⟨h,_⟩ | ⟨_,h⟩
    ·exact absurd h hp
    ·exact h
   have h5:vt (aR f) m<vt (aR f) p.1:=A.S.root m1 h0
   rw [if_pos h5,if_pos h0]
   exact⟨if_pos h0,fun _=>rfl⟩
  ·rw [if_neg h0]
   by_cases h5:vt (aR f) m<vt (aR f) p.1
   ·rw [if_pos h5]
    exact⟨if_neg h0,fun h=>absurd h h0⟩
   ·rw [if_neg h5]
    exact⟨if_neg kQ,fun h=>absurd h kQ⟩
theorem age{f:ZX}{p:Rat × Rat}(h:Ex f p)(hA:∀j,jP f (vt (aR f)) (gY f p j).1 (gY f p j).2):∀j,Ex f (gY f p j)
 | 0=>h
 | j+1=>(agd (hA j) (age h hA j)).2
theorem u9{s n u:Nat}{f:ZX}(b:BZ s n f)(hs:s≤5000000)(hn:n≤31){t:Rat}(q:SQ u t)(hu:u≤1000000000):aD env.P 81 [PI f.l,RR t] (.int .i64 (cH (e t f))):=by
 have hmul:n*(u+1)≤31*(u+1):=Nat.mul_le_mul_right _ hn
 have s1:=u3 b q.n2 q.d2 q.hu (by omega) (by show _<137438953472;omega)
 rw [yT]at s1
 rw [cS]
 exact s1
structure QgC(s' k:Nat)(f q:ZX):Prop where
 bq:BZ s' k q
 hs:s'≤100000
 hk:k≤31
 q8:ZX.N q≤8
 hG:aD env.P 208 [PI q.l,PI f.l] (PI (gz q f).l)
 IG:2≤ZX.N (gz q f) → ∃sg ng,lL sg ng (gz q f)
 hC:q≠0 → ∃sc nc,Ch sc nc (sq q)
 hCh:q≠0→aD env.P 85 [PI q.l] (aG zq (aR (sq q)))
theorem AN.awe{s n u s' k:Nat}{f q:ZX}{p:Rat × Rat}(a:AN s n u f p)(c:QgC s' k f q):aD env.P 133 [PI q.l,QA f (aR f) p] (.bool (decide (WE (bK f p) q=0))):=by
 have I:=a.I
 have A:=a.A
 have hu:=a.hu
 have n8:=a.n8
 have m8:=c.q8
 have zC:=c.hs
 have e1:=mZ (f:=f) (c:=aR f) a.q1 a.q2 (by omega)
 have hgN:ZX.N (gz q f)≤ZX.N f:=(eJ q f).r.mD I.nf.ne
 have CC:(q.l.length=0)↔q=0:=by
  rw [show q.l.length=ZX.N q from rfl]
  exact⟨fun h=>Classical.byContradiction fun h0=>by have:=ZX.aI.1 h0;omega,fun h=>by rw [h];rfl⟩
 by_cases q0:q=0
 ·have hU:WE (bK f p) q=0:=by rw [q0];exact(show MO (bK f p) 0 0 from .inl ⟨rfl,uC (cT A)⟩).eq (cT A)
  rw [decide_eq_true hU]
  by_cases h2:2≤ZX.N (gz q f)
  ·obtain⟨sg,ng,IGG⟩:=c.IG h2
   have k4:=IGG.oP a.q1 a.q2 (by omega)
   rw [cS,cS]at k4
   exact kH (by show ZX.N q<_;omega) (by show ZX.N (gz q f)<_;omega) e1 (fun _=>u9 c.bq (by omega) c.hk a.q1 (by omega)) c.hG (fun _=>IGG.w6) (fun _=>k4) (by rw [if_pos (CC.2 q0)])
  ·exact kH (by show ZX.N q<_;omega) (by show ZX.N (gz q f)<_;omega) e1 (fun _=>u9 c.bq (by omega) c.hk a.q1 (by omega)) c.hG (fun hh=>absurd hh h2) (fun hh=>absurd hh h2) (b:=0) (cg:=[]) (by rw [if_pos (CC.2 q0)])
 have WZ:¬q.l.length=0:=fun h=>q0 (CC.1 h)
 by_cases DH:p.1=p.2
 ·rw [decide_eq_true DH]at e1
  have hU:=(AS (jQ DH) q).eq (cT A)
  rw [hU]
  have hz:decide (cH (e p.1 q)=0)=if q.l.length=0 then true else if true=true then cH (e p.1 q)==0 else if (gz q f).l.length<2 then false else decide ((0:Int)<0):=by
   rw [if_neg WZ,if_pos rfl];rfl
  by_cases h2:2≤ZX.N (gz q f)
  ·obtain⟨sg,ng,IGG⟩:=c.IG h2
   have k4:=IGG.oP a.q1 a.q2 (by omega)
   rw [cS,cS]at k4
   exact kH (by show ZX.N q<_;omega) (by show ZX.N (gz q f)<_;omega) e1 (fun _=>u9 c.bq (by omega) c.hk a.q1 (by omega)) c.hG (fun _=>IGG.w6) (fun _=>k4) (by rw [if_neg WZ,if_pos rfl];rfl)
  ·exact kH (by show ZX.N q<_;omega) (by show ZX.N (gz q f)<_;omega) e1 (fun _=>u9 c.bq (by omega) c.hk a.q1 (by omega)) c.hG (fun hh=>absurd hh h2) (fun hh=>absurd hh h2) (b:=0) (cg:=[]) hz
 have c8:p.1<p.2:=by have:=A.le;grind
 rw [decide_eq_false DH]at e1
 obtain⟨σ,hσ,awf⟩:=MR I.nf I.sq I.DC (by omega) A (by omega) q0 c8
 rw [hσ.eq (cT A)]
 by_cases h2:2≤ZX.N (gz q f)
 ·obtain⟨sg,ng,IGG⟩:=c.IG h2
  have k4:=IGG.oP a.q1 a.q2 (by omega)
  rw [if_neg (Rat.not_lt.2 (Rat.le_of_lt c8)),cS,cS]at k4
  refine kH (by show ZX.N q<_;omega) (by show ZX.N (gz q f)<_;omega) e1 (fun hh=>by cases hh) c.hG (fun _=>IGG.w6) (fun _=>k4) (σ:=0) ?_
  rw [if_neg WZ,if_neg (by decide),if_neg (by show ¬ZX.N (gz q f)<2;omega)]
  exact decide_eq_decide.2 (by omega)
 ·refine kH (by show ZX.N q<_;omega) (by show ZX.N (gz q f)<_;omega) e1 (fun hh=>by cases hh) c.hG (fun hh=>absurd hh h2) (fun hh=>absurd hh h2) (σ:=0) (b:=0) (cg:=[]) ?_
  rw [if_neg WZ,if_neg (by decide),if_pos (by show ZX.N (gz q f)<2;omega)]
  refine decide_eq_false fun hh=>?_
  have hz:=awf.1 hh
  have:gz q f=1:=(BU (.inr I.nf.ne)).N1 (by omega)
  rw [this]at hz
  have hS1:=sP ZX.oI (fun d h1 h2=>by have:=h1.mD ZX.oI;rwa [ZX.r9]at this) (by rw [ZX.r9];omega)
  have:=hS1.const c8 (σ:=1) (.inr (by rw [I5];decide)) (fun x _ _=>by rw [I5];decide)
  omega
theorem AN.qsg{s n u s' k:Nat}{f q:ZX}{p:Rat × Rat}(a:AN s n u f p)(hx:Ex f p)(c:QgC s' k f q):aD env.P 106 [PI q.l,QA f (aR f) p] (.int .i64 (WE (bK f p) q)):=by
 have I:=a.I
 have A:=a.A
 have hu:=a.hu
 have hs:=a.hs
 have zC:=c.hs
 have hk:=c.hk
 have n8:=a.n8
 have m8:=c.q8
 have Z:=a.awe c
 by_cases hz:WE (bK f p) q=0
 ·rw [hz]
  rw [decide_eq_true hz]at Z
  exact RK Z
 rw [decide_eq_false hz]at Z
 have q0:q≠0:=fun h=>hz (by rw [h];exact(show MO (bK f p) 0 0 from .inl ⟨rfl,uC (cT A)⟩).eq (cT A))
 have P0:=mZ (f:=f) (c:=aR f) a.q1 a.q2 (by omega)
 have GJ:q.l.length<1000000:=by show ZX.N q<_;omega
 by_cases DH:p.1=p.2∨ZX.N q=1
 ·have sO:=u9 c.bq (by omega) hk a.q1 (show u≤1000000000 by omega)
  have hv:WE (bK f p) q=cH (e p.1 q):=by
   by_cases h1:p.1=p.2
   ·exact(AS (jQ h1) q).eq (cT A)
   ·obtain⟨d,hd,rfl⟩:=ZX.lC (DH.resolve_left h1)
    rw [CN]
    have hdq:(d:Rat)≠0:=fun h0=>hd (Rat.intCast_eq_zero_iff.1 h0)
    refine MO.eq (cT A) (.inr ⟨?_,1,p.1-1,p.2,by decide,A.gU (.inl (by grind)),eO,fun x _ _=>by rw [CN];exact⟨rfl,u5 hd⟩⟩)
    rcases cP (d:Rat)with ⟨_,h⟩ | ⟨h,_⟩ | ⟨_,h⟩
    ·exact .inr h
    ·exact absurd h hdq
    ·exact .inl h
  rw [hv]
  exact abX GJ Z P0 (by
   rcases DH with h | h
   ·exact .inl (decide_eq_true h)
   ·exact .inr h) sO
 obtain⟨h1,h2⟩:=not_or.1 DH
 have c8:p.1<p.2:=by have:=A.le;grind
 rw [decide_eq_false h1]at P0
 obtain⟨σ,hσ,awf⟩:=MR I.nf I.sq I.DC (by omega) A (by omega) q0 c8
 rw [hσ.eq (cT A)]at hz
 obtain⟨nq,hmu⟩:=oM q0
 have hNq:ZX.N (sq q)≤ZX.N q:=(u6 q0).mD q0
 have Sq:=sP nq.ne (ZU q0) (by omega)
 obtain⟨w,S⟩:=lH (h:=sq q) I.nf I.DC
 rw [agc I.nf I.sq q0]at S
 have n1:=S.N
 have Sg:=sP S.ng.ne S.sg (by omega)
 have Sw:=sP S.nw.ne S.sw (by omega)
 have mγ:=Sg.b8 (Rat.le_of_lt c8)
 obtain⟨sc,nc,C⟩:=c.hC q0
 obtain⟨cb,cl⟩:=C.all
 obtain⟨D,C2,xC,g1,g2⟩:=B8 a.q1 a.q2
 have key:=F9 A g1 g2
 have hE:=age hx fun j=>(key j).1
 obtain⟨N,hN⟩:∃N,N=64+4*(ZX.N f+ZX.N q)*(zs f+zs q+(ZX.N f+ZX.N q)+8):=⟨_,rfl⟩
 have hzf:=B9 I.ch.bz
 have hzq:=B9 c.bq
 have hM:4*(ZX.N f+ZX.N q)*(zs f+zs q+(ZX.N f+ZX.N q)+8)≤4*16*(100000+100000+16+8):=Nat.mul_le_mul (by omega) (by omega)
 obtain⟨J,hJ,hj,iP⟩:=rT (fun j=>(gY f p j).1=(gY f p j).2∨vt (aR (sq q)) (gY f p j).1=vt (aR (sq q)) (gY f p j).2) N
 have vR:(gY f p J).1=(gY f p J).2∨vt (aR (sq q)) (gY f p J).1=vt (aR (sq q)) (gY f p J).2:=by
  by_cases hJN:J<N
  ·exact iP hJN
  have hJE:J=N:=by omega
  obtain⟨k1,k2,k3,k4,k5,_⟩:=key J
  exact a.stop c.bq m8 q0 S c8 (by omega) k1 k3 k4 k5 (by omega)
 have hV:3*u+N+3≤1000000000:=by omega
 have sqJ:∀j,j≤N→SQ (3*u+N+3) (gY f p j).1∧SQ (3*u+N+3) (gY f p j).2∧SQ (3*u+N+3) (((gY f p j).1+(gY f p j).2)/2)∧SQ (3*u+N+3) ((gY f p j).1+(gY f p j).2):=fun j hj=>by
  obtain⟨_,_,_,_,_,k6,k7⟩:=key j
  exact⟨(k6.sq C2 xC).mono (by omega),(k7.sq C2 xC).mono (by omega),((k6.GK k7).sq C2 xC).mono (by omega),((k6.add k7).sq C2 xC).mono (by omega)⟩
 have btw:∀j,j≤N→aD env.P 80 [aG zq (aR (sq q)),RR (gY f p j).1,RR (gY f p j).2] (.int .i64 ((vt (aR (sq q)) (gY f p j).1:Int)-vt (aR (sq q)) (gY f p j).2)):=fun j hj=>by
  obtain⟨s1,s2,_⟩:=sqJ j hj
  have:=VT cb C.hn cl s1 s2 hV
  rwa [if_neg (Rat.not_lt.2 (key j).1.le)]at this
 obtain⟨sJ1,sJ2,_⟩:=sqJ J hJ
 have R1:=abY (c:=aR f) (cg:=aR (sq q)) (an:=fun j=>(gY f p j).1.num) (ad:=fun j=>(gY f p j).1.den) (bn:=fun j=>(gY f p j).2.num) (bd:=fun j=>(gY f p j).2.den) (J:=J) (r:=cH (e (gY f p J).2 q)) GJ h2 Z P0 (c.hCh q0) (fun j hj'=>by
   obtain⟨s1,s2,s3,s4⟩:=sqJ j (by omega)
   have HT:=not_or.1 (hj j hj')
   have apS:(gY f p j).1<(gY f p j).2:=by have:=(key j).1.le;grind
   have Pj:=mZ (f:=f) (c:=aR f) s1 s2 hV
   rw [decide_eq_false HT.1]at Pj
   have m:=Sq.b8 (Rat.le_of_lt apS)
   have H:=I.afQ (key j).1.le s1 s2 s3 s4 hV
   rw [(agd (key j).1 (hE j)).1]at H
   exact⟨Pj,⟨_,btw j (by omega),by have:=HT.2;omega⟩,H⟩) (by
   have Pj:=mZ (f:=f) (c:=aR f) sJ1 sJ2 hV
   by_cases hp:(gY f p J).1=(gY f p J).2
   ·rw [decide_eq_true hp]at Pj;exact .inl Pj
   ·rw [decide_eq_false hp]at Pj
    refine .inr ⟨Pj,?_⟩
    have h3:=btw J hJ
    rw [vR.resolve_left hp,Int.sub_self]at h3
    exact h3) (u9 c.bq (by omega) hk sJ2 hV)
 have hU:WE (bK f p) q=cH (e (gY f p J).2 q):=by
  obtain⟨k1,k2,k3,k4,_⟩:=key J
  have e1:bK f p=bK f (gY f p J):=funext fun t=>propext (k2 t).symm
  rw [e1]
  by_cases hp:(gY f p J).1=(gY f p J).2
  ·rw [←hp];exact(AS (jQ hp) q).eq (cT k1)
  ·have MS:(gY f p J).1<(gY f p J).2:=by have:=k1.le;grind
   have m1:=Sg.b8 k3
   have m2:=Sg.b8 k4
   have m3:=Sg.b8 (Rat.le_of_lt MS)
   exact(WH k1 S Sg Sw MS (by omega) q0 rfl (by omega) Sq (vR.resolve_left hp)).eq (cT k1)
 rw [hU]
 exact R1
theorem WJ{pn pd qn qd z rn rd:Int}(n1:aD env.P 161 [T2 pn pd] (T2 pn pd))(n2:aD env.P 161 [T2 qn qd] (T2 qn qd))(zc:aD env.P 90 [T2 qn qd,T2 pn pd] (.int .i64 z))(hr:if 0<z then rn=qn∧rd=qd else rn=pn∧rd=pd) :
  aD env.P 94 [T2 pn pd, .sl [[.bool (decide (qn<0)),us (aP LL qn.natAbs), .bool (decide (qd<0)),us (aP LL qd.natAbs)]]] (T2 rn rd):=by
 refine b6 [(0,T2 pn pd),(1, .sl [[.bool (decide (qn<0)),us (aP LL qn.natAbs), .bool (decide (qd<0)),us (aP LL qd.natAbs)]])] Tryz.func94 ?_
 refine aA [1,2,4] ?_
 refine aJ [1,4,5] n1 ?_
 refine aM [4,5,10,11,12] ?_
 refine W.block ?_
 refine W.bE (fun k σ=>∃(i:Nat) (mn md:Int) (rows:Pm.Rows) (clk:Nat),σ=⟨fa [(4, .ptr 4 1 0 0),(5, .ptr 5 2 0 0),(10, .sl [[.bool (decide (qn<0)),us (aP LL qn.natAbs), .bool (decide (qd<0)),us (aP LL qd.natAbs)]]),(11, .int .i64 1),(12, .int .i64 i)],rows,clk⟩∧rows 4=some ⟨1,52,4,[[.bool false, .nil, .bool false, .nil]]⟩∧rows 5=some ⟨2,52,4,[[.bool (decide (mn<0)),us (aP LL mn.natAbs), .bool (decide (md<0)),us (aP LL md.natAbs)]]⟩ ∧
  ((i=0∧mn=pn∧md=pd)∨(i=1∧mn=rn∧md=rd))∧i+k=1) 1 ?_ ?_
 ·exact⟨_,aC _ [4,5,10,11,12],0,pn,pd,_,_,rfl,by simp,by simp, .inl ⟨rfl,rfl,rfl⟩,by omega⟩
 rintro k _ ⟨i,mn,md,rows,clk,rfl,fM,eW,hI,EV⟩
 rcases hI with ⟨rfl,rfl,rfl⟩ | ⟨rfl,rfl,rfl⟩
 ·refine cB [4,5,10,11,12,13] ?_
  refine bF ?_ ?_<;>intro h
  ·refine W.skip ?_
   refine W.dV (fun σ=>∃(rows:Pm.Rows) (clk:Nat),σ=⟨fa [(4, .ptr 4 1 0 0),(5, .ptr 5 2 0 0),(10, .sl [[.bool (decide (qn<0)),us (aP LL qn.natAbs), .bool (decide (qd<0)),us (aP LL qd.natAbs)]]),(11, .int .i64 1),(12, .int .i64 0)],rows,clk⟩∧rows 4=some ⟨1,52,4,[[.bool false, .nil, .bool false, .nil]]⟩∧rows 5=some ⟨2,52,4,[[.bool (decide (rn<0)),us (aP LL rn.natAbs), .bool (decide (rd<0)),us (aP LL rd.natAbs)]]⟩) ?_ ?_
   ·refine aA [4,5,7,10,11,12] ?_
    refine W.sr ?_
    simp (disch:=omega) [gw,eW]
    refine bU [4,5,7,10,11,12,19] zc ?_
    refine bF ?_ ?_<;>intro h
    ·have h:0<z:=by simpa using h
     rw [if_pos h]at hr
     obtain⟨rfl,rfl⟩:=hr
     refine W.cE (fun K hK=>?_)
     simp (disch:=omega) [gw,eW]
     refine aB n2 ?_
     simp (disch:=omega) [gw,eW]
     exact hK _ ⟨_,aC _ [4,5,10,11,12],_,_,rfl,by simp [fM],by simp [eW]⟩
    ·have h:¬0<z:=by simpa using h
     rw [if_neg h]at hr
     obtain⟨rfl,rfl⟩:=hr
     refine W.skip ?_
     exact⟨_,aC _ [4,5,10,11,12],_,_,rfl,by simp [fM],by simp [eW]⟩
   rintro _ ⟨rows,clk,rfl,fM,eW⟩
   refine W.cE (fun K hK=>?_);simp (disch:=omega) [gw]
   refine hK _ ⟨0,_,aC _ [4,5,10,11,12],by omega,1,rn,rd,_,_,rfl,fM,eW, .inr ⟨rfl,rfl,rfl⟩,rfl⟩
  ·simp at h
 ·refine cB [4,5,10,11,12,13] ?_
  refine bF ?_ ?_<;>intro h
  ·simp at h
  ·refine eV ?_
   refine W.sr ?_
   simp (disch:=omega) [gw,fM,eW]
   refine bN [4] ?_
   exact b7
theorem abZ{u:Nat}{p q:Rat}(hp:SQ u p)(hq:SQ u q)(hu:u≤1000000000):aD env.P 94 [RT p, .sl [tc q]] (RT (if p<q then q else p)):=by
 obtain⟨l1,l2⟩:=hp.LLt (show u<1099511627770 by omega)
 obtain⟨l3,l4⟩:=hq.LLt (show u<1099511627770 by omega)
 have n1:=nZ l1 l2
 have n2:=nZ l3 l4
 rw [bB]at n1 n2
 have z:=dI hq.nL hq.dL hp.nL hp.dL (by omega) (bB q) (bB p) ⟨hq.nL,hq.dL⟩ ⟨hp.nL,hp.dL⟩
 refine WJ n1 n2 z ?_
 by_cases h:p<q
 ·rw [if_pos (fW.2 h),if_pos h];exact⟨rfl,rfl⟩
 ·rw [if_neg (fun h2=>h (fW.1 h2)),if_neg h];exact⟨rfl,rfl⟩
theorem awg{x y:Int}(hx:Sz x)(hy:Sz y):aD env.P 252 [I x,I y] (I (x-y)):=by
 have:=OL (decide (x<0)) (decide (y<0)) (aP LL x.natAbs) (aP LL y.natAbs) hx.SA hy.SA
 rwa [tG,tG]at this
theorem ajF(p q:Rat):dR (p.num*q.den-q.num*p.den) (p.den*q.den)=p-q:=by
 have h1:((p.den:Int)*q.den)≠0:=by
  have:=p.den_nz;have:=q.den_nz
  refine Int.mul_ne_zero ?_ ?_<;>omega
 refine MA h1 ?_
 rw [Rat.intCast_sub,Rat.intCast_mul,Rat.intCast_mul,Rat.intCast_mul,yU p,yU q]
 grind
theorem JO{p q:Rat}{k:Nat}(hp:sz LL p.num≤k∧sz LL (p.den:Int)≤k)(hq:sz LL q.num≤k∧sz LL (q.den:Int)≤k)(hk:k≤300000000000):aD env.P 253 [RT p,RT q] (RT (p-q)):=by
 have c1:=AJ hp.1 hp.2 hq.1 hq.2 (by omega) (bB p) (bB q) hp hq
 have g1:=cO (b:=LL) eB hp.1 hq.2
 have g2:=cO (b:=LL) eB hq.1 hp.2
 have g3:=cO (b:=LL) eB hp.2 hq.2
 have g5:=n9 (b:=LL) eB (Nat.le_trans g1 (show k+k≤k+k from Nat.le_refl _)) (Nat.le_trans (Nat.le_of_eq (pK _)) (Nat.le_trans g2 (show k+k≤k+k from Nat.le_refl _)))
 rw [←Int.sub_eq_add_neg]at g5
 have a1:=awg (x:=p.num*q.den) (y:=q.num*p.den) (by show _<_;omega) (by show _<_;omega)
 have h1:((p.den:Int)*q.den)≠0:=by
  have:=p.den_nz;have:=q.den_nz
  refine Int.mul_ne_zero ?_ ?_<;>omega
 have l1:=rN (n:=p.num*q.den-q.num*p.den) (d:=p.den*q.den) (by omega) (by omega) h1
 rw [ajF]at l1
 show aD env.P _ [T2 p.num p.den,T2 q.num q.den] (T2 (p-q).num (p-q).den)
 replace l1:aD env.P 179 [I (p.num*q.den-q.num*p.den),I (p.den*q.den)] (T2 (p-q).num (p-q).den):=l1
 clear g1 g2 g3 g5 h1 hp hq
 generalize (p-q).num=rn at *
 generalize ((p-q).den:Int)=rd at *
 generalize p.num*(q.den:Int)-q.num*p.den=x4 at *
 generalize p.num*(q.den:Int)=x1 at *
 generalize q.num*(p.den:Int)=x2 at *
 generalize (p.den:Int)*(q.den:Int)=x3 at *
 generalize p.num=pn at *
 generalize (p.den:Int)=pd at *
 generalize q.num=qn at *
 generalize (q.den:Int)=qd at *
 refine b6 [(0,T2 pn pd),(1,T2 qn qd)] Tryz.func253 ?_
 refine aA [2,3,4] ?_
 refine aJ [4,5,6,7] c1 ?_
 refine W.sd ?_
 simp (maxSteps:=4000000) (disch:=omega) [gw]
 refine aB a1 ?_
 simp (maxSteps:=4000000) (disch:=omega) [gw]
 refine aB l1 ?_
 simp (maxSteps:=4000000) (disch:=omega) [gw]
 (try (refine a9 (of_decide_eq_true (by kernel_rfl)) ?_));(try simp (maxSteps:=4000000) (disch:=omega) [gw]);(repeat rw [if_pos (by kernel_rfl)]);(try simp (maxSteps:=4000000) (disch:=omega) [gw])
 refine bN [4] ?_
 exact b7
set_option maxHeartbeats 4000000 in
theorem WK{x y:List Int}{an ad bn bd cn cd dn dd:Nat→Int}{N J:Nat}{c:Int}(hs:aD env.P 186 [.ag (G9 x (an 0) (ad 0) (bn 0) (bd 0)), .ag (G9 y (cn 0) (cd 0) (dn 0) (dd 0))] (.int .i64 N))(hN:N<1000000000000000)
  (hb:∀j,j<J→(∃z1,aD env.P 90 [T2 (bn j) (bd j),T2 (cn j) (cd j)] (.int .i64 z1)∧0<z1)∧(∃z2,aD env.P 90 [T2 (dn j) (dd j),T2 (an j) (ad j)] (.int .i64 z2)∧0<z2) ∧
   ∃wn wd vn vd z3,aD env.P 253 [T2 (bn j) (bd j),T2 (an j) (ad j)] (T2 wn wd)∧aD env.P 253 [T2 (dn j) (dd j),T2 (cn j) (cd j)] (T2 vn vd)∧aD env.P 90 [T2 wn wd,T2 vn vd] (.int .i64 z3) ∧
   (if 0≤z3 then aD env.P 187 [.ag (G9 x (an j) (ad j) (bn j) (bd j))] (.ag (G9 x (an (j+1)) (ad (j+1)) (bn (j+1)) (bd (j+1))))∧G9 y (cn (j+1)) (cd (j+1)) (dn (j+1)) (dd (j+1))=G9 y (cn j) (cd j) (dn j) (dd j)
    else aD env.P 187 [.ag (G9 y (cn j) (cd j) (dn j) (dd j))] (.ag (G9 y (cn (j+1)) (cd (j+1)) (dn (j+1)) (dd (j+1))))∧G9 x (an (j+1)) (ad (j+1)) (bn (j+1)) (bd (j+1))=G9 x (an j) (ad j) (bn j) (bd j))) (hJ:J<N) {z1 z2:Int} {pa pb:Bool}
  (k1:aD env.P 90 [T2 (bn J) (bd J),T2 (cn J) (cd J)] (.int .i64 z1)) (k2:aD env.P 90 [T2 (dn J) (dd J),T2 (an J) (ad J)] (.int .i64 z2)) (p1:aD env.P 183 [.ag (G9 x (an J) (ad J) (bn J) (bd J))] (.bool pa)) (p2:aD env.P 183 [.ag (G9 y (cn J) (cd J) (dn J) (dd J))] (.bool pb))
  (hp:¬(pa=true∧pb=true∧z1=0)) (UI:¬(pa=true∧pb=true∧z2=0)) (hc:(z1≤0∧c = -1)∨(0<z1∧z2≤0∧c=1)) :
  aD env.P 206 [.ag (G9 x (an 0) (ad 0) (bn 0) (bd 0)), .ag (G9 y (cn 0) (cd 0) (dn 0) (dd 0))] (.fE [.ag (G9 x (an J) (ad J) (bn J) (bd J)), .ag (G9 y (cn J) (cd J) (dn J) (dd J)), .int .i64 c]):=by
 simp only [G9]at *
 refine b6 [(0, .ag (G9 x (an 0) (ad 0) (bn 0) (bd 0))),(1, .ag (G9 y (cn 0) (cd 0) (dn 0) (dd 0)))] Tryz.func206 ?_
 refine aA [2,3,4,5] ?_
 refine W.seq ?_
 refine aJ [2,3,4,5,9,10] hs ?_
 refine W.block ?_
 refine W.bE (fun k σ=>∃(j:Nat) (rows:Pm.Rows) (clk:Nat),σ=⟨fa [(2, .ptr 2 0 0 0),(3, .ptr 3 1 0 0),(4, .ptr 4 2 0 0),(5, .ptr 5 3 0 0),(9, .int .i64 N),(10, .int .i64 j)],rows,clk⟩∧rows 2=some ⟨0,54,9,[G9 x (an j) (ad j) (bn j) (bd j)]⟩∧rows 3=some ⟨1,54,9,[G9 y (cn j) (cd j) (dn j) (dd j)]⟩∧rows 4=some ⟨2,54,9,[[.nil, .bool false, .nil, .bool false, .nil, .bool false, .nil, .bool false, .nil]]⟩∧rows 5=some ⟨3,54,9,[[.nil, .bool false, .nil, .bool false, .nil, .bool false, .nil, .bool false, .nil]]⟩∧j+k=J) J ?_ ?_
 ·exact⟨_, .refl,0,_,_,rfl,by simp,by simp,by simp,by simp,by omega⟩
 rintro k _ ⟨j,rows,clk,rfl,cC,cM,fM,eW,hjk⟩
 simp only [G9]at cC cM
 refine cB [2,3,4,5,9,10,11] ?_
 refine bF ?_ ?_<;>intro h
 ·refine W.skip ?_
  by_cases hjJ:j<J
  ·obtain⟨⟨u1,m1,o1⟩,⟨u2,m2,o2⟩,wn,wd,vn,vd,z3,s1,s2,s3,hh⟩:=hb j hjJ
   have o1':¬u1≤0:=by omega
   have o2':¬u2≤0:=by omega
   refine W.dV (fun σ=>∃(rows:Pm.Rows) (clk:Nat),σ=⟨fa [(2, .ptr 2 0 0 0),(3, .ptr 3 1 0 0),(4, .ptr 4 2 0 0),(5, .ptr 5 3 0 0),(9, .int .i64 N),(10, .int .i64 j)],rows,clk⟩∧rows 2=some ⟨0,54,9,[G9 x (an (j+1)) (ad (j+1)) (bn (j+1)) (bd (j+1))]⟩∧rows 3=some ⟨1,54,9,[G9 y (cn (j+1)) (cd (j+1)) (dn (j+1)) (dd (j+1))]⟩∧rows 4=some ⟨2,54,9,[[.nil, .bool false, .nil, .bool false, .nil, .bool false, .nil, .bool false, .nil]]⟩∧rows 5=some ⟨3,54,9,[[.nil, .bool false, .nil, .bool false, .nil, .bool false, .nil, .bool false, .nil]]⟩) ?_ ?_
   ·refine W.seq ?_
    refine W.block ?_
    refine W.sr ?_
    simp (disch:=omega) [gw,cC,cM]
    refine aB m1 ?_
    simp (disch:=omega) [gw,o1']
    refine bN [2,3,4,5,9,10,12] ?_
    refine bF ?_ ?_<;>intro h
    ·simp at h
    refine W.sr ?_
    simp (disch:=omega) [gw,cC,cM]
    refine aB m2 ?_
    simp (disch:=omega) [gw,o2']
    refine bN [2,3,4,5,9,10,38] ?_
    refine bF ?_ ?_<;>intro h
    ·simp at h
    refine W.skip ?_
    refine W.sd ?_
    simp (disch:=omega) [gw,cC,cM]
    refine aB s1 ?_
    simp (disch:=omega) [gw,cC,cM]
    refine bW s2 ?_
    refine bU [2,3,4,5,9,10,75] s3 ?_
    refine bF ?_ ?_<;>intro h
    ·have h3:0≤z3:=by simpa using h
     rw [if_pos h3]at hh
     obtain⟨h1,h2⟩:=hh
     refine W.cE (fun K hK=>?_)
     simp (disch:=omega) [gw,cC]
     refine aB h1 ?_
     simp (disch:=omega) [gw,cC]
     exact hK _ ⟨_,aC _ [2,3,4,5,9,10],_,_,rfl,by simp,by simp only [G9];rw [h2];simp [cM],by simp [fM],by simp [eW]⟩
    ·have h3:¬0≤z3:=by simpa using h
     rw [if_neg h3]at hh
     obtain⟨h1,h2⟩:=hh
     refine W.cE (fun K hK=>?_)
     simp (disch:=omega) [gw,cM]
     refine aB h1 ?_
     simp (disch:=omega) [gw,cM]
     exact hK _ ⟨_,aC _ [2,3,4,5,9,10],_,_,rfl,by simp only [G9];rw [h2];simp [cC],by simp,by simp [fM],by simp [eW]⟩
   rintro _ ⟨rows,clk,rfl,cC,cM,fM,eW⟩
   refine W.cE (fun K hK=>?_);simp (disch:=omega) [gw]
   refine hK _ ⟨k-1,_,aC _ [2,3,4,5,9,10],by omega,j+1,_,_,rfl,cC,cM,fM,eW,by omega⟩
  ·have hjE:j=J:=by omega
   subst hjE
   refine W.seq ?_
   refine W.block ?_
   refine W.seq ?_
   refine W.block ?_
   rcases hc with ⟨hz,rfl⟩ | ⟨hz1,hz,rfl⟩
   ·refine W.fY (fun σ=>∃(rows:Pm.Rows) (clk:Nat),σ=⟨fa [(2, .ptr 2 0 0 0),(3, .ptr 3 1 0 0),(4, .ptr 4 2 0 0),(5, .ptr 5 3 0 0),(9, .int .i64 N),(10, .int .i64 j),(12, .bool true)],rows,clk⟩∧rows 2=some ⟨0,54,9,[G9 x (an j) (ad j) (bn j) (bd j)]⟩∧rows 3=some ⟨1,54,9,[G9 y (cn j) (cd j) (dn j) (dd j)]⟩∧rows 4=some ⟨2,54,9,[[.nil, .bool false, .nil, .bool false, .nil, .bool false, .nil, .bool false, .nil]]⟩∧rows 5=some ⟨3,54,9,[[.nil, .bool false, .nil, .bool false, .nil, .bool false, .nil, .bool false, .nil]]⟩) (fun K hK=>?_) ?_
    ·cases pa with
     | false =>
      simp (disch:=omega) [gw,cC,cM]
      refine aB k1 ?_
      simp (disch:=omega) [gw,hz,cC,cM]
      refine aB p1 ?_
      simp (disch:=omega) [gw,cC,cM]
      exact hK _ _ (aC _ [2,3,4,5,9,10,12]) ⟨_,_,rfl,by simp [cC],by simp [cM],by simp [fM],by simp [eW]⟩
     | true =>
      cases pb with
      | false =>
       simp (disch:=omega) [gw,cC,cM]
       refine aB k1 ?_
       simp (disch:=omega) [gw,hz,cC,cM]
       refine aB p1 ?_
       simp (disch:=omega) [gw,cC,cM]
       refine aB p2 ?_
       simp (disch:=omega) [gw,cC,cM]
       exact hK _ _ (aC _ [2,3,4,5,9,10,12]) ⟨_,_,rfl,by simp [cC],by simp [cM],by simp [fM],by simp [eW]⟩
      | true =>
       have pG:(z1==0)=false:=by
        have:¬z1=0:=fun h=>hp ⟨rfl,rfl,h⟩
        simpa using this
       simp (disch:=omega) [gw,cC,cM]
       refine aB k1 ?_
       simp (disch:=omega) [gw,hz,cC,cM]
       refine aB p1 ?_
       simp (disch:=omega) [gw,cC,cM]
       refine aB p2 ?_
       simp (disch:=omega) [gw,cC,cM]
       refine aB k1 ?_
       simp (disch:=omega) [gw,pG]
       exact hK _ _ (aC _ [2,3,4,5,9,10,12]) ⟨_,_,rfl,by simp [cC],by simp [cM],by simp [fM],by simp [eW]⟩
    rintro _ ⟨rows,clk,rfl,cC,cM,fM,eW⟩
    simp only [G9]at cC cM
    refine bF ?_ ?_<;>intro h
    ·refine W.sd ?_
     simp (disch:=omega) [gw,cC,cM,fM,eW]
     (try (refine a9 (of_decide_eq_true (by kernel_rfl)) ?_));(try simp (maxSteps:=4000000) (disch:=omega) [gw,fM,eW]);(repeat rw [if_pos (by kernel_rfl)]);(try simp (maxSteps:=4000000) (disch:=omega) [gw,fM,eW])
     (try (refine a9 (of_decide_eq_true (by kernel_rfl)) ?_));(try simp (maxSteps:=4000000) (disch:=omega) [gw,fM,eW]);(repeat rw [if_pos (by kernel_rfl)]);(try simp (maxSteps:=4000000) (disch:=omega) [gw,fM,eW])
     refine bN [4,5,6] ?_
     exact b7
    ·simp at h
   ·have aBm:¬z1≤0:=by omega
    refine W.sr ?_
    simp (disch:=omega) [gw,cC,cM]
    refine aB k1 ?_
    simp (disch:=omega) [gw,aBm]
    refine bN [2,3,4,5,9,10,12] ?_
    refine bF ?_ ?_<;>intro h
    ·simp at h
    refine W.fY (fun σ=>∃(rows:Pm.Rows) (clk:Nat),σ=⟨fa [(2, .ptr 2 0 0 0),(3, .ptr 3 1 0 0),(4, .ptr 4 2 0 0),(5, .ptr 5 3 0 0),(9, .int .i64 N),(10, .int .i64 j),(38, .bool true)],rows,clk⟩∧rows 2=some ⟨0,54,9,[G9 x (an j) (ad j) (bn j) (bd j)]⟩∧rows 3=some ⟨1,54,9,[G9 y (cn j) (cd j) (dn j) (dd j)]⟩∧rows 4=some ⟨2,54,9,[[.nil, .bool false, .nil, .bool false, .nil, .bool false, .nil, .bool false, .nil]]⟩∧rows 5=some ⟨3,54,9,[[.nil, .bool false, .nil, .bool false, .nil, .bool false, .nil, .bool false, .nil]]⟩) (fun K hK=>?_) ?_
    ·cases pa with
     | false =>
      simp (disch:=omega) [gw,cC,cM]
      refine aB k2 ?_
      simp (disch:=omega) [gw,hz,cC,cM]
      refine aB p1 ?_
      simp (disch:=omega) [gw,cC,cM]
      exact hK _ _ (aC _ [2,3,4,5,9,10,38]) ⟨_,_,rfl,by simp [cC],by simp [cM],by simp [fM],by simp [eW]⟩
     | true =>
      cases pb with
      | false =>
       simp (disch:=omega) [gw,cC,cM]
       refine aB k2 ?_
       simp (disch:=omega) [gw,hz,cC,cM]
       refine aB p1 ?_
       simp (disch:=omega) [gw,cC,cM]
       refine aB p2 ?_
       simp (disch:=omega) [gw,cC,cM]
       exact hK _ _ (aC _ [2,3,4,5,9,10,38]) ⟨_,_,rfl,by simp [cC],by simp [cM],by simp [fM],by simp [eW]⟩
      | true =>
       have pG:(z2==0)=false:=by
        have:¬z2=0:=fun h=>UI ⟨rfl,rfl,h⟩
        simpa using this
       simp (disch:=omega) [gw,cC,cM]
       refine aB k2 ?_
       simp (disch:=omega) [gw,hz,cC,cM]
       refine aB p1 ?_
       simp (disch:=omega) [gw,cC,cM]
       refine aB p2 ?_
       simp (disch:=omega) [gw,cC,cM]
       refine aB k2 ?_
       simp (disch:=omega) [gw,pG]
       exact hK _ _ (aC _ [2,3,4,5,9,10,38]) ⟨_,_,rfl,by simp [cC],by simp [cM],by simp [fM],by simp [eW]⟩
    rintro _ ⟨rows,clk,rfl,cC,cM,fM,eW⟩
    simp only [G9]at cC cM
    refine bF ?_ ?_<;>intro h
    ·refine W.sd ?_
     simp (disch:=omega) [gw,cC,cM,fM,eW]
     (try (refine a9 (of_decide_eq_true (by kernel_rfl)) ?_));(try simp (maxSteps:=4000000) (disch:=omega) [gw,fM,eW]);(repeat rw [if_pos (by kernel_rfl)]);(try simp (maxSteps:=4000000) (disch:=omega) [gw,fM,eW])
     (try (refine a9 (of_decide_eq_true (by kernel_rfl)) ?_));(try simp (maxSteps:=4000000) (disch:=omega) [gw,fM,eW]);(repeat rw [if_pos (by kernel_rfl)]);(try simp (maxSteps:=4000000) (disch:=omega) [gw,fM,eW])
     refine bN [4,5,6] ?_
     exact b7
    ·simp at h
 ·exfalso
  simp at h;omega
section
variable {x y:List Int} {an ad bn bd cn cd dn dd:Int} (nx:aD env.P 182 [.ag (G9 x an ad bn bd)] (.ag (G9 x an ad bn bd))) (ny:aD env.P 182 [.ag (G9 y cn cd dn dd)] (.ag (G9 y cn cd dn dd)))
include nx ny
theorem apT{r:Int}(hr:r = -1∨r=0∨r=1)(p1:aD env.P 183 [.ag (G9 x an ad bn bd)] (.bool true))(k:aD env.P 205 [.ag (G9 y cn cd dn dd),T2 an ad] (.int .i64 r)):aD env.P 130 [.ag (G9 x an ad bn bd), .ag (G9 y cn cd dn dd)] (.int .i64 (-r)):=by
 have hw:IntKind.wrap .i64 (-r) = -r:=wrap_i64 (by omega) (by omega)
 simp only [G9]at *
 refine b6 [(0, .ag (G9 x an ad bn bd)),(1, .ag (G9 y cn cd dn dd))] Tryz.func130 ?_
 refine aA [2,3] ?_
 refine iQ ?_
 refine bW nx ?_
 refine bW ny ?_
 (try (refine a9 (of_decide_eq_true (by kernel_rfl)) ?_));(try simp (maxSteps:=4000000) (disch:=omega) [gw]);(repeat rw [if_pos (by kernel_rfl)]);(try simp (maxSteps:=4000000) (disch:=omega) [gw])
 (try (refine a9 (of_decide_eq_true (by kernel_rfl)) ?_));(try simp (maxSteps:=4000000) (disch:=omega) [gw]);(repeat rw [if_pos (by kernel_rfl)]);(try simp (maxSteps:=4000000) (disch:=omega) [gw])
 refine bN [2,3] ?_
 refine W.seq ?_
 refine W.block ?_
 refine aJ [2,3,15] p1 ?_
 refine bF ?_ ?_<;>intro h
 ·refine iM ?_
  refine aB k ?_
  simp (disch:=omega) [gw,hw]
  refine bN [4] ?_
  exact b7
 ·simp at h
theorem apU{r:Int}(p1:aD env.P 183 [.ag (G9 x an ad bn bd)] (.bool false))(p2:aD env.P 183 [.ag (G9 y cn cd dn dd)] (.bool true))(k:aD env.P 205 [.ag (G9 x an ad bn bd),T2 cn cd] (.int .i64 r)):aD env.P 130 [.ag (G9 x an ad bn bd), .ag (G9 y cn cd dn dd)] (.int .i64 r):=by
 simp only [G9]at *
 refine b6 [(0, .ag (G9 x an ad bn bd)),(1, .ag (G9 y cn cd dn dd))] Tryz.func130 ?_
 refine aA [2,3] ?_
 refine iQ ?_
 refine bW nx ?_
 refine bW ny ?_
 (try (refine a9 (of_decide_eq_true (by kernel_rfl)) ?_));(try simp (maxSteps:=4000000) (disch:=omega) [gw]);(repeat rw [if_pos (by kernel_rfl)]);(try simp (maxSteps:=4000000) (disch:=omega) [gw])
 (try (refine a9 (of_decide_eq_true (by kernel_rfl)) ?_));(try simp (maxSteps:=4000000) (disch:=omega) [gw]);(repeat rw [if_pos (by kernel_rfl)]);(try simp (maxSteps:=4000000) (disch:=omega) [gw])
 refine bN [2,3] ?_
 refine W.seq ?_
 refine W.block ?_
 refine aJ [2,3,15] p1 ?_
 refine bF ?_ ?_<;>intro h
 ·simp at h
 refine aJ [2,3,23] p2 ?_
 refine bF ?_ ?_<;>intro h
 ·refine aJ [4] k ?_
  exact b7
 ·simp at h
set_option maxHeartbeats 4000000 in
theorem ZV{g:List Int}{ln ld hn hd zd zl dg r:Int}{v w:PV}{hs:Bool}(p1:aD env.P 183 [.ag (G9 x an ad bn bd)] (.bool false))(p2:aD env.P 183 [.ag (G9 y cn cd dn dd)] (.bool false))
  (kM:aD env.P 94 [T2 an ad, .sl [[.bool (decide (cn<0)),us (aP LL cn.natAbs), .bool (decide (cd<0)),us (aP LL cd.natAbs)]]] (T2 ln ld)) (kD:aD env.P 90 [T2 dn dd,T2 bn bd] (.int .i64 zd)) (hh:if zd<0 then hn=dn∧hd=dd else hn=bn∧hd=bd) (kL:aD env.P 90 [T2 ln ld,T2 hn hd] (.int .i64 zl))
  (hG:zl<0→aD env.P 184 [.sl [[Po x],[Po y]]] (Po g)) (hD:zl<0→aD env.P 87 [Po g] (.int .i64 dg)) (hH:zl<0→0<dg→aD env.P 185 [Po g,T2 ln ld,T2 hn hd] (.bool hs)) (hr:zl<0∧0<dg∧hs=true→r=0)
  (hA:¬(zl<0∧0<dg∧hs=true)→aD env.P 206 [.ag (G9 x an ad bn bd), .ag (G9 y cn cd dn dd)] (.fE [v,w, .int .i64 r])) (hv:∃a b c d,v = .ag (G9 x a b c d)) (hw:∃a b c d,w = .ag (G9 y a b c d)) :
  aD env.P 130 [.ag (G9 x an ad bn bd), .ag (G9 y cn cd dn dd)] (.int .i64 r):=by
 obtain⟨va,vb,vc,vd,rfl⟩:=hv
 obtain⟨wa,wb,wc,wd,rfl⟩:=hw
 simp only [G9]at *
 refine b6 [(0, .ag (G9 x an ad bn bd)),(1, .ag (G9 y cn cd dn dd))] Tryz.func130 ?_
 refine aA [2,3] ?_
 refine iQ ?_
 refine bW nx ?_
 refine bW ny ?_
 (try (refine a9 (of_decide_eq_true (by kernel_rfl)) ?_));(try simp (maxSteps:=4000000) (disch:=omega) [gw]);(repeat rw [if_pos (by kernel_rfl)]);(try simp (maxSteps:=4000000) (disch:=omega) [gw])
 (try (refine a9 (of_decide_eq_true (by kernel_rfl)) ?_));(try simp (maxSteps:=4000000) (disch:=omega) [gw]);(repeat rw [if_pos (by kernel_rfl)]);(try simp (maxSteps:=4000000) (disch:=omega) [gw])
 refine bN [2,3] ?_
 refine W.seq ?_
 refine W.block ?_
 refine aJ [2,3,15] p1 ?_
 refine bF ?_ ?_<;>intro h
 ·simp at h
 refine aJ [2,3,23] p2 ?_
 refine bF ?_ ?_<;>intro h
 ·simp at h
 refine W.skip ?_
 refine iQ ?_
 refine aB kM ?_
 simp (maxSteps:=4000000) (disch:=omega) [gw]
 (try (refine a9 (of_decide_eq_true (by kernel_rfl)) ?_));(try simp (maxSteps:=4000000) (disch:=omega) [gw]);(repeat rw [if_pos (by kernel_rfl)]);(try simp (maxSteps:=4000000) (disch:=omega) [gw])
 (try (refine a9 (of_decide_eq_true (by kernel_rfl)) ?_));(try simp (maxSteps:=4000000) (disch:=omega) [gw]);(repeat rw [if_pos (by kernel_rfl)]);(try simp (maxSteps:=4000000) (disch:=omega) [gw])
 refine bN [2,3,5,6] ?_
 refine W.gJ (fun σ=>∃(v5 v6:Nat) (rows:Pm.Rows) (clk:Nat),σ=⟨fa [(2, .ptr 2 0 0 0),(3, .ptr 3 1 0 0),(5, .ptr 5 v5 0 0),(6, .ptr 6 v6 0 0)],rows,clk⟩∧rows 2=some ⟨0,54,9,[G9 x an ad bn bd]⟩∧rows 3=some ⟨1,54,9,[G9 y cn cd dn dd]⟩∧rows 5=some ⟨v5,52,4,[[.bool (decide (ln<0)),us (aP LL ln.natAbs), .bool (decide (ld<0)),us (aP LL ld.natAbs)]]⟩∧rows 6=some ⟨v6,52,4,[[.bool (decide (hn<0)),us (aP LL hn.natAbs), .bool (decide (hd<0)),us (aP LL hd.natAbs)]]⟩) ?_ ?_
 ·refine aJ [2,3,5,6,42] kD ?_
  refine bF ?_ ?_<;>intro h
  ·have h:zd<0:=by simpa using h
   rw [if_pos h]at hh
   obtain⟨rfl,rfl⟩:=hh
   refine W.cE (fun K hK=>?_);simp (disch:=omega) [gw]
   exact hK _ ⟨_,aC _ [2,3,5,6],_,_,_,_,rfl,by simp,by simp,by simp,by simp⟩
  ·have h:¬zd<0:=by simpa using h
   rw [if_neg h]at hh
   obtain⟨rfl,rfl⟩:=hh
   refine W.skip ?_
   exact⟨_,aC _ [2,3,5,6],_,_,_,_,rfl,by simp,by simp,by simp,by simp⟩
 rintro _ ⟨v5,v6,rows,clk,rfl,cC,cM,eW,lB⟩
 simp only [G9]at cC cM
 by_cases hz:zl<0∧0<dg∧hs=true
 ·have hG':=hG hz.1
  have hD':=hD hz.1
  have hH':=hH hz.1 hz.2.1
  obtain⟨z1,z2,rfl⟩:=hz
  rw [hr ⟨z1,z2,rfl⟩]
  refine W.seq ?_
  refine W.sr ?_
  simp (disch:=omega) [gw,eW,lB]
  refine bU [2,3,5,6,48] kL ?_
  refine bF ?_ ?_<;>intro h
  ·refine W.sr ?_
   simp (disch:=omega) [gw,cC,cM]
   refine bU [2,3,5,6,7] hG' ?_
   refine iM ?_
   refine aB hD' ?_
   simp (disch:=omega) [gw,z2,eW,lB]
   refine bU [2,3,63] hH' ?_
   refine bF ?_ ?_<;>intro h
   ·refine aA [4] ?_
    exact b7
   ·simp at h
  ·exfalso;simp at h;omega
 ·have hA':=hA hz
  refine W.gJ (fun σ=>∃(rows:Pm.Rows) (clk:Nat),σ=⟨fa [(2, .ptr 2 0 0 0),(3, .ptr 3 1 0 0)],rows,clk⟩∧rows 2=some ⟨0,54,9,[G9 x an ad bn bd]⟩∧rows 3=some ⟨1,54,9,[G9 y cn cd dn dd]⟩) ?_ ?_
  ·refine W.sr ?_
   simp (disch:=omega) [gw,eW,lB]
   refine bU [2,3,5,6,48] kL ?_
   refine bF ?_ ?_<;>intro h
   ·have h:zl<0:=by simpa using h
    have hG':=hG h
    have hD':=hD h
    have hH':=hH h
    refine W.sr ?_
    simp (disch:=omega) [gw,cC,cM]
    refine bU [2,3,5,6,7] hG' ?_
    refine W.fY (fun σ=>∃(rows:Pm.Rows) (clk:Nat),σ=⟨fa [(2, .ptr 2 0 0 0),(3, .ptr 3 1 0 0),(63, .bool false)],rows,clk⟩∧rows 2=some ⟨0,54,9,[G9 x an ad bn bd]⟩∧rows 3=some ⟨1,54,9,[G9 y cn cd dn dd]⟩) (fun K hK=>?_) ?_
    ·by_cases h2:0<dg
     ·have hH2:=hH' h2
      have hf:hs=false:=by
       cases hs with
       | false=>rfl
       | true=>exact absurd ⟨h,h2,rfl⟩ hz
      subst hf
      simp (disch:=omega) [gw]
      refine aB hD' ?_
      simp (disch:=omega) [gw,h2,eW,lB]
      refine bW hH2 ?_
      refine hK _ _ (aC _ [2,3,63]) ⟨_,_,rfl,by simp [cC],by simp [cM]⟩
     ·simp (disch:=omega) [gw]
      refine aB hD' ?_
      simp (disch:=omega) [gw,h2]
      refine hK _ _ (aC _ [2,3,63]) ⟨_,_,rfl,by simp [cC],by simp [cM]⟩
    rintro _ ⟨rows,clk,rfl,cC,cM⟩
    refine bF ?_ ?_<;>intro h
    ·simp at h
    refine W.skip ?_
    exact⟨_,aC _ [2,3],_,_,rfl,cC,cM⟩
   ·refine W.skip ?_
    exact⟨_,aC _ [2,3],_,_,rfl,by simp [cC],by simp [cM]⟩
  rintro _ ⟨rows,clk,rfl,cC,cM⟩
  simp only [G9]at cC cM
  refine W.sr ?_
  simp (disch:=omega) [gw,cC,cM]
  refine bU [10] hA' ?_
  refine aA [4] ?_
  exact b7
end
theorem AN.w7{s n u:Nat}{f:ZX}{p:Rat × Rat}(a:AN s n u f p){t:Rat}{v:Nat}(qt:SQ v t)(huv:u≤v)(hv:v≤1000000000):aD env.P 205 [GA f p,RT t] (.int .i64 (cr (bK f p) t)):=by
 have I:=a.I
 have q1:=a.q1.mono huv
 have q2:=a.q2.mono huv
 have hp:=kI (x:=f.l) q1 q2 hv
 have hc:=a.A.avO t
 by_cases DH:p.1=p.2
 ·rw [decide_eq_true (by rw [DH];exact Rat.le_refl)]at hp
  have z:=dI q1.nL q1.dL qt.nL qt.dL (by omega) (bB p.1) (bB t) ⟨q1.nL,q1.dL⟩ ⟨qt.nL,qt.dL⟩
  have:=V9 hp z
  have e1:cr (bK f p) t=dQ (p.1.num*(t.den:Int)) (t.num*(p.1.den:Int)):=by
   rw [hc,if_pos DH]
   by_cases h2:p.1<t
   ·rw [if_pos h2,nK (n6.1 (gV.2 h2))]
   ·rw [if_neg h2]
    by_cases h3:t<p.1
    ·rw [if_pos h3,nM (n7.1 (fW.2 h3))]
    ·rw [if_neg h3,jM.2 (by grind)]
  rw [e1]
  exact this
 ·have c8:p.1<p.2:=by have:=a.A.le;grind
  rw [decide_eq_false (Rat.not_le.2 c8)]at hp
  rw [hc,if_neg DH]
  by_cases h1:t≤p.1
  ·rw [if_pos h1]
   have z1:=dI qt.nL qt.dL q1.nL q1.dL (by omega) (bB t) (bB p.1) ⟨qt.nL,qt.dL⟩ ⟨q1.nL,q1.dL⟩
   have z2:=dI qt.nL qt.dL q2.nL q2.dL (by omega) (bB t) (bB p.2) ⟨qt.nL,qt.dL⟩ ⟨q2.nL,q2.dL⟩
   refine uA hp z1 z2 (uB f I.ch.bz (by have:=a.hs;omega) (by have:=I.ch.hn;omega) qt hv) (DJ I (by have:=a.hs;omega) q1 hv) ?_
   rw [if_pos (jN.2 h1)]
  ·rw [if_neg h1]
   by_cases h2:p.2<t
   ·rw [if_pos h2]
    have z1:=dI qt.nL qt.dL q1.nL q1.dL (by omega) (bB t) (bB p.1) ⟨qt.nL,qt.dL⟩ ⟨q1.nL,q1.dL⟩
    have z2:=dI qt.nL qt.dL q2.nL q2.dL (by omega) (bB t) (bB p.2) ⟨qt.nL,qt.dL⟩ ⟨q2.nL,q2.dL⟩
    refine uA hp z1 z2 (uB f I.ch.bz (by have:=a.hs;omega) (by have:=I.ch.hn;omega) qt hv) (DJ I (by have:=a.hs;omega) q1 hv) ?_
    rw [if_neg (fun h=>h1 (jN.1 h)),if_pos (fW.2 h2)]
   ·rw [if_neg h2]
    have k:=af6 I (by have:=a.hs;omega) a.A (m:=t) (by grind) (by grind) q1 q2 qt hv
    have b1:=I.S.b8 (show p.1≤t by grind)
    have e1:(if e t f=0 then 0 else if vt (aR f) t<vt (aR f) p.1 then -1 else 1:Int)=if vt (aR f) p.1=vt (aR f) t then 1 else if e t f=0 then 0 else -1:=by
     by_cases h3:e t f=0
     ·have:=I.S.root (show p.1<t by grind) h3
      rw [if_pos h3,if_neg (by omega),if_pos h3]
     ·rw [if_neg h3]
      by_cases h4:vt (aR f) t<vt (aR f) p.1
      ·rw [if_pos h4,if_neg (by omega),if_neg h3]
      ·rw [if_neg h4,if_pos (by omega)]
    rw [←e1]
    exact k
noncomputable def st(f h:ZX)(p q:Rat × Rat):Nat→(Rat × Rat) × (Rat × Rat)
 | 0=>(p,q)
 | j+1=>if (st f h p q j).2.2-(st f h p q j).2.1≤(st f h p q j).1.2-(st f h p q j).1.1 then(vC f (st f h p q j).1,(st f h p q j).2)else((st f h p q j).1,vC h (st f h p q j).2)
section
variable {f h:ZX} {p q:Rat × Rat} (A:jP f (vt (aR f)) p.1 p.2) (B:jP h (vt (aR h)) q.1 q.2) {D D':Nat} {b:Rat} (g1:Gr D b 0 p.1) (g2:Gr D b 0 p.2) (g3:Gr D' b 0 q.1) (g4:Gr D' b 0 q.2)
include A B g1 g2 g3 g4
theorem y7:∀j,jP f (vt (aR f)) (st f h p q j).1.1 (st f h p q j).1.2∧jP h (vt (aR h)) (st f h p q j).2.1 (st f h p q j).2.2∧(∀t,bK f (st f h p q j).1 t↔bK f p t)∧(∀t,bK h (st f h p q j).2 t↔bK h q t)∧Gr D b j (st f h p q j).1.1∧Gr D b j (st f h p q j).1.2∧Gr D' b j (st f h p q j).2.1∧Gr D' b j (st f h p q j).2.2
 | 0=>⟨A,B,fun _=>Iff.rfl,fun _=>Iff.rfl,g1,g2,g3,g4⟩
 | j+1=>by
  obtain⟨a1,a2,a3,a4,a5,a6,a7,a8⟩:=y7 j
  rw [st]
  split
  ·obtain⟨b1,b2,_⟩:=lJ a1
   obtain⟨c1,c2⟩:=WC (f:=f) a5 a6
   exact⟨b1,a2,fun t=>(b2 t).trans (a3 t),a4,c1,c2,a7.mono (by omega),a8.mono (by omega)⟩
  ·obtain⟨b1,b2,_⟩:=lJ a2
   obtain⟨c1,c2⟩:=WC (f:=h) a7 a8
   exact⟨a1,b1,a3,fun t=>(b2 t).trans (a4 t),a5.mono (by omega),a6.mono (by omega),c1,c2⟩
theorem agf{W:Rat}(w1:p.2-p.1≤W)(w2:q.2-q.1≤W):∀i,((st f h p q (2*i)).1.2-(st f h p q (2*i)).1.1)*2^i≤W∧((st f h p q (2*i)).2.2-(st f h p q (2*i)).2.1)*2^i≤W
 | 0=>by rw [Rat.pow_zero,Rat.mul_one,Rat.mul_one];exact⟨w1,w2⟩
 | i+1=>by
  obtain⟨h1,h2⟩:=agf w1 w2 i
  have s0:=y7 A B g1 g2 g3 g4 (2*i)
  have s1:=y7 A B g1 g2 g3 g4 (2*i+1)
  have key:∀M:Rat,(st f h p q (2*i)).1.2-(st f h p q (2*i)).1.1≤M→(st f h p q (2*i)).2.2-(st f h p q (2*i)).2.1≤M→((st f h p q (2*i+2)).1.2-(st f h p q (2*i+2)).1.1)*2≤M∧((st f h p q (2*i+2)).2.2-(st f h p q (2*i+2)).2.1)*2≤M:=fun M m1 m2=>by
   have a1:=(lJ s0.1).2.2.2.2
   have a2:=(lJ s0.2.1).2.2.2.2
   have b1:=(lJ s1.1).2.2.2.2
   have b2:=(lJ s1.2.1).2.2.2.2
   have l1:=s1.1.le
   have l2:=s1.2.1.le
   have l3:=(lJ s1.1).1.le
   have l4:=(lJ s1.2.1).1.le
   have e2:st f h p q (2*i+2)=if (st f h p q (2*i+1)).2.2-(st f h p q (2*i+1)).2.1≤(st f h p q (2*i+1)).1.2-(st f h p q (2*i+1)).1.1 then(vC f (st f h p q (2*i+1)).1,(st f h p q (2*i+1)).2)else((st f h p q (2*i+1)).1,vC h (st f h p q (2*i+1)).2):=rfl
   have e1:st f h p q (2*i+1)=if (st f h p q (2*i)).2.2-(st f h p q (2*i)).2.1≤(st f h p q (2*i)).1.2-(st f h p q (2*i)).1.1 then(vC f (st f h p q (2*i)).1,(st f h p q (2*i)).2)else((st f h p q (2*i)).1,vC h (st f h p q (2*i)).2):=rfl
   rw [e2]
   generalize st f h p q (2*i+1)=t at *
   generalize st f h p q (2*i)=s at *
   clear e2 s0 s1 h1 h2
   split
   ·rename_i c
    show((vC f t.1).2-(vC f t.1).1)*2≤M∧(t.2.2-t.2.1)*2≤M
    split at e1
    ·subst e1;dsimp only at *;exact⟨by grind,by grind⟩
    ·subst e1;dsimp only at *;exact⟨by grind,by grind⟩
   ·rename_i c
    show(t.1.2-t.1.1)*2≤M∧((vC h t.2).2-(vC h t.2).1)*2≤M
    split at e1
    ·subst e1;dsimp only at *;exact⟨by grind,by grind⟩
    ·subst e1;dsimp only at *;exact⟨by grind,by grind⟩
  have hP:=fA i
  have e3:W/2^i*2^i=W:=Rat.div_mul_cancel (Rat.ne_of_gt hP)
  have hle:∀x:Rat,x*2^i≤W→x≤W/2^i:=fun x hx=>Rat.le_of_mul_le_mul_right (by rw [e3];exact hx) hP
  obtain⟨k1,k2⟩:=key (W/2^i) (hle _ h1) (hle _ h2)
  rw [show 2*(i+1)=2*i+2 by omega,Rat.pow_succ]
  have m1:=Rat.mul_le_mul_of_nonneg_right k1 (Rat.le_of_lt hP)
  have m2:=Rat.mul_le_mul_of_nonneg_right k2 (Rat.le_of_lt hP)
  rw [e3]at m1 m2
  exact⟨by grind,by grind⟩
end
theorem ajG{U V:Rat→Prop}{x y:Rat}(hU:∀s t,U s→s≤t→U t)(hx:U x)(hy:∀t,V t→y≤t)(rU:x≤y)(kQ:¬ ∀t,U t↔V t):cu U V = -1:=by
 unfold cu
 refine if_pos (Classical.byContradiction fun AO=>kQ fun t=>⟨fun h=>Classical.byContradiction fun h2=>AO ⟨t,h,h2⟩,fun h=>hU x t hx ?_⟩)
 have:=hy t h
 grind
theorem ajH{U V:Rat→Prop}{x y:Rat}(hV:∀s t,V s→s≤t→V t)(hx:V x)(hy:∀t,U t→y≤t)(rU:x≤y)(kQ:¬ ∀t,U t↔V t):cu U V=1:=by
 have h1:∀t,U t→V t:=fun t h=>hV x t hx (by have:=hy t h;grind)
 unfold cu
 rw [if_neg (fun ⟨t,h2,h3⟩=>h3 (h1 t h2))]
 exact if_pos (Classical.byContradiction fun AO=>kQ fun t=>⟨h1 t,fun h=>Classical.byContradiction fun h2=>AO ⟨t,h,h2⟩⟩)
theorem lo_le{f:ZX}{v:Rat→Nat}{lo hi:Rat}(A:jP f v lo hi){t:Rat}(h:gM v lo hi t):lo≤t:=Rat.not_lt.1 fun h2=>A.gU (.inl h2) h
theorem agh{s n u s' n' u':Nat}{f h:ZX}{p q:Rat × Rat}(a:AN s n u f p)(b:AN s' n' u' h q)(kQ:¬ ∀x,bK f p x↔bK h q x)(hp:p.1<p.2)(hq:q.1<q.2){M:Nat}(hM:64+4*(ZX.N f+ZX.N h)*(zs f+zs h+(ZX.N f+ZX.N h)+8)≤M) :
  ∃J,J<M∧((st f h p q J).1.2≤(st f h p q J).2.1∨(st f h p q J).2.2≤(st f h p q J).1.1) ∧ ∀j,j<J→¬((st f h p q j).1.2≤(st f h p q j).2.1∨(st f h p q j).2.2≤(st f h p q j).1.1):=by
 have I:=a.I
 have I':=b.I
 have A:=a.A
 have B:=b.A
 have n8:=a.n8
 have m8:=b.n8
 have n2:=aga I.nf A
 have m2:=aga I'.nf B
 have fz:=RH I.ch.bz
 have hz:=RH I'.ch.bz
 have bf:=MP I.nf fz
 have bh:=MP I'.nf hz
 have hA:∀c∈f.l,c.natAbs≤2^zs f:=fun c hc=>Nat.le_of_lt (BZ.lt fz c hc)
 have hB:∀c∈h.l,c.natAbs≤2^zs h:=fun c hc=>Nat.le_of_lt (BZ.lt hz c hc)
 obtain⟨D,_,_,g1,g2⟩:=B8 (a.q1.mono (show u≤u+u' by omega)) (a.q2.mono (show u≤u+u' by omega))
 obtain⟨D',_,_,g3,g4⟩:=B8 (b.q1.mono (show u'≤u+u' by omega)) (b.q2.mono (show u'≤u+u' by omega))
 obtain⟨z,hz1,uN,hz3⟩:∃z,z≤zs f∧z≤zs h∧(z=zs f∨z=zs h):=by
  rcases Nat.le_total (zs f) (zs h)with h1 | h1
  ·exact⟨zs f,Nat.le_refl _,h1, .inl rfl⟩
  ·exact⟨zs h,h1,Nat.le_refl _, .inr rfl⟩
 have e1:=JJ n2 m2 n8 m8 hz1 uN
 have e2:=JJ m2 n2 m8 n8 uN hz1
 have e3:(2*lk (zs f) (ZX.N f) 3 (z+2)+2*(zs f+zs h)+9≤64+4*(ZX.N f+ZX.N h)*(zs f+zs h+(ZX.N f+ZX.N h)+8))∨(2*lk (zs h) (ZX.N h) 3 (z+2)+2*(zs f+zs h)+9≤64+4*(ZX.N f+ZX.N h)*(zs f+zs h+(ZX.N f+ZX.N h)+8)):=by
  have sw:4*(ZX.N h+ZX.N f)*(zs h+zs f+(ZX.N h+ZX.N f)+8)=4*(ZX.N f+ZX.N h)*(zs f+zs h+(ZX.N f+ZX.N h)+8):=by rw [Nat.add_comm (ZX.N h),Nat.add_comm (zs h)]
  rcases Nat.le_total (zs f) (zs h)with h1 | h1
  ·have hz':z=zs f:=by omega
   subst hz'
   rcases Nat.lt_or_ge 2 (ZX.N h)with h2 | h2
   ·exact .inl (JK n2 m2 n8 h1 (.inl h2))
   ·exact .inr (JL n2 n8 h1 (by omega))
  ·have hz':z=zs h:=by omega
   subst hz'
   rcases Nat.lt_or_ge 2 (ZX.N f)with h2 | h2
   ·have:=JK m2 n2 m8 h1 (.inl h2)
    rw [sw,Nat.add_comm (zs h) (zs f)]at this
    exact .inr this
   ·have:=JL (m:=ZX.N f) m2 m8 h1 (by omega)
    rw [sw,Nat.add_comm (zs h) (zs f)]at this
    exact .inl this
 have sw:4*(ZX.N h+ZX.N f)*(zs h+zs f+(ZX.N h+ZX.N f)+8)=4*(ZX.N f+ZX.N h)*(zs f+zs h+(ZX.N f+ZX.N h)+8):=by rw [Nat.add_comm (ZX.N h),Nat.add_comm (zs h)]
 rw [sw]at e2
 generalize 64+4*(ZX.N f+ZX.N h)*(zs f+zs h+(ZX.N f+ZX.N h)+8)=T at *
 obtain⟨K,hK⟩:∃K,K=(T-1)/2-(zs f+zs h+3):=⟨_,rfl⟩
 have hi:2*(K+1+(zs f+zs h+2))<T:=by omega
 have k1:se (zs f) (zs h) (ZX.N f) (ZX.N h) (z+2)≤K:=by omega
 have k2:se (zs h) (zs f) (ZX.N h) (ZX.N f) (z+2)≤K:=by omega
 have k3:lk (zs f) (ZX.N f) 3 (z+2)≤K∨lk (zs h) (ZX.N h) 3 (z+2)≤K:=by omega
 generalize hie:K+1+(zs f+zs h+2)=i at *
 have vR:(st f h p q (2*i)).1.2≤(st f h p q (2*i)).2.1∨(st f h p q (2*i)).2.2≤(st f h p q (2*i)).1.1:=by
  refine Classical.byContradiction fun AO=>kQ ?_
  obtain⟨c1,c2⟩:=not_or.1 AO
  have w0:∀ {r:Rat × Rat} {y:Nat},Ab r.1 (2^(y+1))→Ab r.2 (2^(y+1))→y≤zs f+zs h→r.2-r.1≤2^(zs f+zs h+2):=fun {r y} ⟨x1,x2⟩ ⟨x3,x4⟩ hy=>by
   refine Rat.le_trans ?_ (FW (show y+1+1≤zs f+zs h+2 by omega))
   rw [Rat.pow_succ];grind
  obtain⟨w1,w2⟩:=agf A B g1 g2 g3 g4 (w0 (a.b1 hp) (a.b2 hp) (by omega)) (w0 (b.b1 hq) (b.b2 hq) (by omega)) i
  obtain⟨s1,s2,s3,s4,_⟩:=y7 A B g1 g2 g3 g4 (2*i)
  generalize st f h p q (2*i)=t at *
  have l1:=s1.le
  have l2:=s2.le
  obtain⟨S,hS,hS1,hS2⟩:∃S,(S=t.1.1∨S=t.2.1)∧S≤t.1.1∧S≤t.2.1:=by
   by_cases hh:t.1.1≤t.2.1
   ·exact⟨_, .inl rfl,Rat.le_refl,hh⟩
   ·exact⟨_, .inr rfl,by grind,Rat.le_refl⟩
  obtain⟨E,hE,hE1,hE2⟩:∃E,(E=t.1.2∨E=t.2.2)∧t.1.2≤E∧t.2.2≤E:=by
   by_cases hh:t.1.2≤t.2.2
   ·exact⟨_, .inr rfl,hh,Rat.le_refl⟩
   ·exact⟨_, .inl rfl,Rat.le_refl,by grind⟩
  have hP:=fA (zs f+zs h+2)
  have nar:∀x:Rat,x*2^i≤2^(zs f+zs h+2)→x*2^(K+1)≤1:=fun x hx=>by
   rw [←hie,pR (K+1),←Rat.mul_assoc]at hx
   refine Rat.le_of_mul_le_mul_right ?_ hP
   rw [Rat.one_mul];exact hx
  have hd:(E-S)*2^K≤1:=by
   have n1:=nar _ w1
   have n2:=nar _ w2
   have hPK:=fA K
   rw [Rat.pow_succ]at n1 n2
   have:E-S≤(t.1.2-t.1.1)+(t.2.2-t.2.1):=by rcases hS with rfl | rfl<;>rcases hE with rfl | rfl<;>grind
   have:=Rat.mul_le_mul_of_nonneg_right this (Rat.le_of_lt hPK)
   grind
  have a1:¬bK f p S:=fun hh2=>s1.gU (by grind) ((s3 S).2 hh2)
  have b1:¬bK h q S:=fun hh2=>s2.gU (by grind) ((s4 S).2 hh2)
  have a2:bK f p E:=(s3 E).1 (s1.up eO hE1)
  have b2:bK h q E:=(s4 E).1 (s2.up eO hE2)
  have CQ:=(cT A).lt a1 a2
  have h1:E-S≤1:=by
   have:=Rat.mul_le_mul_of_nonneg_left (rP K) (show 0≤E-S by grind)
   grind
  have bd:Ab S (2^(z+2))∧Ab E (2^(z+2)):=by
   have main:∀b:Rat,Ab b (2^(z+1))→S<b → -b<E→Ab S (2^(z+2))∧Ab E (2^(z+2)):=fun b ⟨y1,y2⟩ y3 y4=>by
    have y5:=rP (z+1)
    rw [show z+2=z+1+1 by omega,Rat.pow_succ]
    generalize (2:Rat)^(z+1)=T at *
    exact⟨⟨by grind,by grind⟩,⟨by grind,by grind⟩⟩
   rcases hz3 with rfl | rfl
   ·exact main _ bf ((MQ I.nf A).2 a1) ((MQ I.nf A).1 a2)
   ·exact main _ bh ((MQ I'.nf B).2 b1) ((MQ I'.nf B).1 b2)
  exact ajD I.nf I'.nf I.DC I'.DC A B hA hB (Nat.le_refl _) (Nat.le_refl _) n8 m8 k1 k2 k3 bd.1 bd.2 a1 a2 b1 b2 hd
 obtain⟨J,hJ,hj,iP⟩:=rT (fun j=>(st f h p q j).1.2≤(st f h p q j).2.1∨(st f h p q j).2.2≤(st f h p q j).1.1) (2*i+1)
 have hJ2:J<2*i+1:=Nat.not_le.1 fun hh=>hj (2*i) (by omega) vR
 exact⟨J,by omega,iP hJ2,hj⟩
def gg(x:ZX × Rat × Rat):List PV:=Po x.1.l::(tc x.2.1++tc x.2.2)
@[simp] theorem aBo{x:ZX × Rat × Rat}:gg x=Po x.1.l::(tc x.2.1++tc x.2.2):=rfl
@[simp] theorem arT{l:List (ZX × Rat × Rat)}:bT 9 (emap gg l)=True:=cY fun _=>rfl
@[simp] theorem apV{v e n:Nat}{l:List (ZX × Rat × Rat)}:dG (some ⟨v,e,n,emap gg l⟩)=True:=cN fun _=>rfl
theorem agi{s n:Nat}{f:ZX}(I:lL s n f)(h:ZX)(hC:(qb (qb s n) n+n+6)*4^n≤4500000000)(hq:qb s n≤5000000):lL (qb s n) n (gz h f):=by
 have nd:Nf (gz h f):=BU (.inr I.nf.ne)
 have hd:dv (gz h f) f:=(eJ h f).r
 obtain⟨w,nw,e⟩:=I.nf.quo nd hd
 have hD:b9 f=b9 w*gz h f+w*b9 (gz h f):=by
  have h1:=congrArg b9 e
  rwa [uW]at h1
 refine⟨⟨I.lay.dv I.nf nd hd,I.lay.hn,Nat.le_trans I.lay.hs (Nat.pow_le_pow_right (by decide) (by unfold qb;omega)),hC⟩,I.lT,nd,MM nd fun d h1 h2=>I.DC d (h1.trans hd) (by rw [hD];exact(h1.mul_left _).add (h2.mul_left _)),hq⟩
theorem lL.root{s n:Nat}{f:ZX}(I:lL s n f){p:Rat × Rat}(hp:p∈B7 s n f):SQ (uu s) p.1∧SQ (uu s) p.2∧jP f (vt (aR f)) (ex f p).1 (ex f p).2∧SQ (uu s) (ex f p).1∧SQ (uu s) (ex f p).2:=by
 obtain⟨a1,a2,a3,a4,a5,a6⟩:=I.ivs.mem _ hp
 refine⟨a1,a2,(DF ⟨I.S, .inr ⟨a4,a6⟩⟩).1,?_,?_⟩<;>(unfold ex;split<;>assumption)
def pk(l:List Int)(i:Nat):Int:=IntKind.wrap .i64 (nth l i+6)%13-6
theorem al6(l:List Int)(i:Nat) : -6≤pk l i∧pk l i≤6:=by
 unfold pk
 have h1:=Int.emod_nonneg (IntKind.wrap .i64 (nth l i+6)) (show (13:Int)≠0 by decide)
 have h2:=Int.emod_lt_of_pos (IntKind.wrap .i64 (nth l i+6)) (show (0:Int)<13 by decide)
 omega
def pks(l:List Int)(n:Nat):List Int:=(List.range n).map (pk l)
theorem agj(l:List Int)(n:Nat):pks l (n+1)=pks l n ++ [pk l n]:=by
 simp [pks,List.range_succ]
theorem MT(l:List Int)(n:Nat):(pks l n).length=n:=by simp [pks]
theorem agk(l:List Int)(n:Nat):List.take n (pks l n)=pks l n:=List.take_of_length_le (by rw [MT];exact Nat.le_refl _)
theorem agl(v:Int) : -9223372036854775808≤IntKind.wrap .i64 v∧IntKind.wrap .i64 v<9223372036854775808:=by
 simp only [IntKind.wrap,IntKind.bits,IntKind.signed]
 have h1:=Int.emod_nonneg v (show (2^64:Int)≠0 by decide)
 have h2:=Int.emod_lt_of_pos v (show (0:Int)<2^64 by decide)
 simp
 split<;>omega
theorem AV{l al:List Int}{k:Int}{f:ZX}{L:List (Rat × Rat)}{x C:List Int}{cc:List ZX}{n d:Int}{r:PV}(hl:l.length<9223372036854775808)(hk : -9223372036854775808≤k∧k<9223372036854775808)(hOf:aD env.P 96 [aG aH (pks l (min l.length 5))] (PI al))(ha:al.length<1000000)(hL:L.length<1000000)
  (hS:aD env.P 26 [.int .i64 k, .int .i64 l.length] (R2 n d)) (hR:aD env.P 45 [R2 n d] (.ag (gB x cc n d n d))) (hRo:2≤al.length→aD env.P 97 [PI al] (aG (qa f (aR f)) L))
  (hr:r=if al.length<2∨L = []then .ag (gB x cc n d n d)else QA f (aR f) (nth L (k%L.length).toNat)):aD env.P 28 [aG aH l, .int .i64 k] r:=by
 simp only [gB]at *
 refine b6 [(0,aG aH l),(1, .int .i64 k)] Tryz.func28 ?_
 refine aA [0,1,4] ?_
 refine aA [0,1,4,5] ?_
 refine W.nil 5 5 3 1 (by simp) (by decide) (fun K hK=>?_)
 refine W.lw [0,1,4,5] hK ?_;clear hK K;simp
 refine aM [0,1,4,5,6] ?_
 refine W.block ?_
 refine W.bE (fun m σ=>∃(i v4 ver:Nat) (rows:Pm.Rows) (clk:Nat),σ=⟨fa [(0,aG aH l),(1, .int .i64 k),(4, .ptr 4 v4 0 0),(5, .own 5 ver 0 i),(6, .int .i64 i)],rows,clk⟩∧rows 4=some ⟨v4,49,10,[[.nil, .nil, .nil, .bool false, .nil, .bool false, .nil, .bool false, .nil, .bool false]]⟩∧rows 5=some ⟨ver,3,1,emap aH (pks l i)⟩∧i+m=min l.length 5) (min l.length 5) ?_ ?_
 ·exact⟨_, .refl,0,_,_,_,_,rfl,by simp,by simp [pks,emap],by omega⟩
 rintro m _ ⟨i,v4,ver,rows,clk,rfl,fM,eW,him⟩
 refine W.seq ?_
 have RZ:=MT l i
 by_cases hi:i<min l.length 5
 ·have hi1:i<l.length:=by omega
  have hi5:(i:Int)<5:=by omega
  have aG2:(i:Int)<l.length:=by omega
  have hw:=agl (nth l i+6)
  have hW:=oE (IntKind.wrap .i64 (nth l i+6)) 13 hw (by decide) (by decide)
  have hp:=al6 l i
  have e1:IntKind.wrap .i64 (IntKind.wrap .i64 (nth l i+6)%13-6)=pk l i:=wrap_i64 (by show -9223372036854775808≤pk l i;omega) (by show pk l i<9223372036854775808;omega)
  refine W.sr ?_
  simp (disch:=omega) [gw,hi1,hi5]
  refine bN [0,1,4,5,6,16] ?_
  refine bF ?_ ?_<;>intro h
  ·refine jV ?_
   refine W.cE (fun K hK=>?_)
   simp (disch:=omega) [gw,hi1]
   refine aB hW ?_
   simp (disch:=omega) [gw,eW,RZ,e1]
   refine W.lw [0,1,4,5,6] hK ?_;clear hK K;simp
   refine W.cE (fun K hK=>?_);simp (disch:=omega) [gw]
   refine hK _ ⟨m-1,_,aC _ [0,1,4,5,6],by omega,i+1,_,_,_,_,rfl,by simp [fM],?_,by omega⟩
   rw [agj]
   simp
  ·simp at h
 ·have kN:i=min l.length 5:=by omega
  subst kN
  refine W.fY (fun σ=>∃(rows:Pm.Rows) (clk:Nat),σ=⟨fa [(0,aG aH l),(1, .int .i64 k),(4, .ptr 4 v4 0 0),(5, .own 5 ver 0 (min l.length 5)),(6, .int .i64 ((min l.length 5:Nat):Int)),(16, .bool false)],rows,clk⟩∧rows 4=some ⟨v4,49,10,[[.nil, .nil, .nil, .bool false, .nil, .bool false, .nil, .bool false, .nil, .bool false]]⟩∧rows 5=some ⟨ver,3,1,emap aH (pks l (min l.length 5))⟩) (fun K hK=>?_) ?_
  ·obtain⟨q,hq⟩:∃q:Nat,min l.length 5=q:=⟨_,rfl⟩
   rw [hq]at hi him eW RZ hK ⊢
   by_cases h1:q<l.length
   ·have h5:¬(q:Int)<5:=by omega
    have h1':(q:Int)<l.length:=by omega
    simp (disch:=omega) [gw,h1,h1',h5]
    exact hK _ _ (aC _ [0,1,4,5,6,16]) ⟨_,_,rfl,fM,eW⟩
   ·have h1':¬(q:Int)<l.length:=by omega
    simp (disch:=omega) [gw,h1,h1']
    exact hK _ _ (aC _ [0,1,4,5,6,16]) ⟨_,_,rfl,fM,eW⟩
  rintro _ ⟨rows,clk,rfl,fM,eW⟩
  refine bF ?_ ?_<;>intro h
  ·simp at h
  refine eV ?_
  refine W.sr ?_
  simp (disch:=omega) [gw,eW,agk]
  refine bU [0,1,4,7] hOf ?_
  refine W.seq ?_
  by_cases h2:al.length<2
  ·rw [if_pos (.inl h2)]at hr
   subst hr
   refine aA [0,1,4,7,33] ?_
   refine bF ?_ ?_<;>intro h
   ·refine iM ?_
    refine bW hS ?_
    refine aB hR ?_
    simp (disch:=omega) [gw,fM]
    refine bN [4] ?_
    exact b7
   ·exfalso;simp at h;omega
  ·have aBp:=hRo (by omega)
   refine aA [0,1,4,7,33] ?_
   refine bF ?_ ?_<;>intro h
   ·exfalso;simp at h;omega
   refine W.skip ?_
   refine aJ [0,1,4,8] aBp ?_
   refine W.seq ?_
   by_cases h3:L = []
   ·rw [if_pos (.inr h3)]at hr
    subst hr h3
    refine aA [0,1,4,8,43] ?_
    refine bF ?_ ?_<;>intro h
    ·refine iM ?_
     refine bW hS ?_
     refine aB hR ?_
     simp (disch:=omega) [gw,fM]
     refine bN [4] ?_
     exact b7
    ·simp at h
   ·rw [if_neg (by simp [h2,h3])]at hr
    subst hr
    have hLp:=List.length_pos_iff.2 h3
    have hW:=oE k (L.length:Int) hk (by omega) (by omega)
    have IE:=Int.emod_nonneg k (show (L.length:Int)≠0 by omega)
    have hm2:=Int.emod_lt_of_pos k (show (0:Int)<L.length by omega)
    obtain⟨j,hj⟩:∃j:Nat,k%(L.length:Int)=j:=⟨(k%(L.length:Int)).toNat,by omega⟩
    have hjL:j<L.length:=by omega
    rw [hj]at hW ⊢
    rw [Int.toNat_natCast]
    refine aA [0,1,4,8,43] ?_
    refine bF ?_ ?_<;>intro h
    ·exfalso;simp at h;exact h3 h
    refine W.skip ?_
    refine iM ?_
    refine aB hW ?_
    simp (disch:=omega) [gw,hjL,fM]
    refine bN [4] ?_
    exact b7
theorem common{f h:ZX}{p q:Rat × Rat}(nf:Nf f)(nh:Nf h)(cf:sN f (b9 f))(ch:sN h (b9 h))(n8:ZX.N f≤20)(m8:ZX.N h≤20)(A:jP f (vt (aR f)) p.1 p.2)(B:jP h (vt (aR h)) q.1 q.2)(hp:p.1<p.2)(hq:q.1<q.2){lo hi:Rat}(l1:lo=p.1∨lo=q.1)(l2:p.1≤lo)(l3:q.1≤lo)(r1:hi=p.2∨hi=q.2)(r2:hi≤p.2)(r3:hi≤q.2) :
  (lo<hi∧vt (aR (gz f h)) hi<vt (aR (gz f h)) lo) ↔ ∀x,bK f p x↔bK h q x:=by
 obtain⟨w1,S1⟩:=lH (h:=h) nf cf
 obtain⟨w2,S2⟩:=lH (h:=f) nh ch
 rw [←rI]at S2
 have n1:=S1.N
 have n2:=S2.N
 have hg:=sP S1.ng.ne S1.sg (by omega)
 have zH:=sP S1.nw.ne S1.sw (by omega)
 have XM:=sP S2.nw.ne S2.sw (by omega)
 have hv:vt (aR f) p.1=vt (aR f) p.2+1:=by
  rcases A.k with ⟨h,_⟩ | ⟨_,h⟩
  ·grind
  ·exact h
 have hv':vt (aR h) q.1=vt (aR h) q.2+1:=by
  rcases B.k with ⟨h,_⟩ | ⟨_,h⟩
  ·grind
  ·exact h
 constructor
 ·rintro⟨c8,hγ⟩
  have c1:=S1.F6 A.S hg zH (Rat.le_of_lt c8)
  have c2:=S2.F6 B.S hg XM (Rat.le_of_lt c8)
  have m1:=zH.b8 (Rat.le_of_lt c8)
  have m2:=XM.b8 (Rat.le_of_lt c8)
  have v1:=A.S.b8 l2
  have v2:=A.S.b8 r2
  have u1:=B.S.b8 l3
  have u2:=B.S.b8 r3
  have a1:¬bK f p lo:=by
   rintro(h | ⟨_,h⟩)
   ·grind
   ·omega
  have b1:¬bK h q lo:=by
   rintro(h | ⟨_,h⟩)
   ·grind
   ·omega
  have a2:bK f p hi:=.inr ⟨by grind,by omega⟩
  have b2:bK h q hi:=.inr ⟨by grind,by omega⟩
  exact yY A B S1 S2 hg zH XM c8 a1 a2 b1 b2 (by omega) (by omega) hγ
 ·intro hx
  have a1:¬bK f p lo:=by
   rcases l1 with h | h
   ·rw [h];exact A.gU (.inr ⟨rfl,hp⟩)
   ·rw [h];exact fun h2=>B.gU (.inr ⟨rfl,hq⟩) ((hx _).1 h2)
  have a2:bK f p hi:=by
   rcases r1 with h | h
   ·rw [h];exact eO
   ·rw [h];exact(hx _).2 eO
  have c8:=(cT A).lt a1 a2
  refine⟨c8,Nat.not_le.1 fun hγ=>?_⟩
  obtain⟨B0,hB0,ab1,ab2⟩:=j4 lo hi
  obtain⟨δ,hδ,HT⟩:=ML zH B.S S1.wh B0
  obtain⟨a,b,g1,g2,g3,g4,g5,g6⟩:=DG (U:=bK f p) hδ c8 a1 a2
  have o1:=jC A g5 g6 g2
  have o2:=jC B (fun hh=>g5 ((hx _).2 hh)) ((hx _).1 g6) g2
  have k1:=S1.F6 A.S hg zH (Rat.le_of_lt g2)
  have x1:=hg.b8 g1
  have x2:=hg.b8 g3
  have x3:=hg.b8 (Rat.le_of_lt g2)
  rcases HT a b (cL ab1 ab2 g1 (by grind)) (cL ab1 ab2 (by grind) g3) g2 g4 with hh | hh<;>omega
theorem al7{u u':Nat}{D j M:Nat}{r r':Rat}(h1:1≤D)(h2:D≤2^(2*(u+u')))(g:Gr D (2^(u+u')) j r)(g':Gr D (2^(u+u')) j r')(hj:j≤M):SQ (3*(u+u')+M+2) r∧SQ (3*(u+u')+M+2) r'∧SQ (3*(u+u')+M+2) ((r+r')/2):=
 ⟨((g.mono hj).sq h1 h2).mono (by omega),((g'.mono hj).sq h1 h2).mono (by omega),((((g.mono hj).GK (g'.mono hj))).sq h1 h2).mono (by omega)⟩
theorem agm{D j β d:Nat}{r r':Rat}(h1:1≤D)(h2:D≤2^d)(g:Gr D (2^β) j r)(g':Gr D (2^β) j r'):SQ (β+1+d+j+1) (r'-r):=by
 obtain⟨⟨y,hy⟩,b1,b2⟩:=g
 obtain⟨⟨z,hz⟩,b3,b4⟩:=g'
 have:Gr D (2^(β+1)) j (r'-r):=⟨⟨z-y,by rw [Rat.intCast_sub,←hz,←hy];grind⟩,by rw [Rat.pow_succ];exact⟨by grind,by grind⟩⟩
 exact this.sq h1 h2
theorem AN.cmp{s n u s' n' u':Nat}{f h:ZX}{p q:Rat × Rat}(a:AN s n u f p)(b:AN s' n' u' h q)(hG:aD env.P 184 [.sl [[Po f.l],[Po h.l]]] (Po (gz f h).l))(IG:2≤ZX.N (gz f h) → ∃sg ng,lL sg ng (gz f h)∧sg≤1000000) :
  aD env.P 130 [GA f p,GA h q] (.int .i64 (cu (bK f p) (bK h q))):=by
 have I:=a.I
 have I':=b.I
 have A:=a.A
 have B:=b.A
 have hsa:=a.hs
 have hsb:=b.hs
 have hua:=a.hu
 have hub:=b.hu
 have hn:=I.ch.hn
 have xL:=I'.ch.hn
 have n8:=a.n8
 have m8:=b.n8
 have Nx:=GC I.ch.bz (by omega) (by omega) a.q1 a.q2 (by omega)
 have Ny:=GC I'.ch.bz (by omega) (by omega) b.q1 b.q2 (by omega)
 have P1:=kI (x:=f.l) a.q1 a.q2 (by omega)
 have P2:=kI (x:=h.l) b.q1 b.q2 (by omega)
 by_cases h1:p.1=p.2
 ·rw [decide_eq_true (by rw [h1];exact Rat.le_refl)]at P1
  have k:=b.w7 (v:=u+u') (a.q1.mono (by omega)) (by omega) (by omega)
  rw [lI (jQ h1) (fun _=>Iff.rfl),RD fun s t=>B.up]
  exact apT Nx Ny (yZ _ _) P1 k
 have c8:p.1<p.2:=by have:=A.le;grind
 rw [decide_eq_false (Rat.not_le.2 c8)]at P1
 by_cases h2:q.1=q.2
 ·rw [decide_eq_true (by rw [h2];exact Rat.le_refl)]at P2
  have k:=a.w7 (v:=u+u') (b.q1.mono (by omega)) (by omega) (by omega)
  rw [lI (fun _=>Iff.rfl) (jQ h2),JH fun s t=>A.up]
  exact apU Nx Ny P1 P2 k
 have hlq:q.1<q.2:=by have:=B.le;grind
 rw [decide_eq_false (Rat.not_le.2 hlq)]at P2
 have a1:=a.q1.mono (show u≤u+u' by omega)
 have a2:=a.q2.mono (show u≤u+u' by omega)
 have b1:=b.q1.mono (show u'≤u+u' by omega)
 have b2:=b.q2.mono (show u'≤u+u' by omega)
 have hU:u+u'≤1000000000:=by omega
 have kM:=abZ a1 b1 hU
 have kD:=dI b2.nL b2.dL a2.nL a2.dL (by omega) (bB q.2) (bB p.2) ⟨b2.nL,b2.dL⟩ ⟨a2.nL,a2.dL⟩
 obtain⟨lo,GR,l1,l2,l3,ql⟩:∃lo,lo=(if p.1<q.1 then q.1 else p.1)∧(lo=p.1∨lo=q.1)∧p.1≤lo∧q.1≤lo∧SQ (u+u') lo:=by
  refine⟨_,rfl,?_⟩
  split
  ·exact⟨.inr rfl,by grind,Rat.le_refl,b1⟩
  ·exact⟨.inl rfl,Rat.le_refl,by grind,a1⟩
 obtain⟨hi,RY,r1,r2,r3,qh⟩:∃hi,hi=(if q.2<p.2 then q.2 else p.2)∧(hi=p.2∨hi=q.2)∧hi≤p.2∧hi≤q.2∧SQ (u+u') hi:=by
  refine⟨_,rfl,?_⟩
  split
  ·exact⟨.inr rfl,by grind,Rat.le_refl,b2⟩
  ·exact⟨.inl rfl,Rat.le_refl,by grind,a2⟩
 rw [←GR]at kM
 have xG:if dQ (q.2.num*(p.2.den:Int)) (p.2.num*(q.2.den:Int))<0 then hi.num=q.2.num∧(hi.den:Int)=q.2.den else hi.num=p.2.num∧(hi.den:Int)=p.2.den:=by
  by_cases hh:q.2<p.2
  ·rw [if_pos (gV.2 hh),RY,if_pos hh];exact⟨rfl,rfl⟩
  ·rw [if_neg (fun h3=>hh (gV.1 h3)),RY,if_neg hh];exact⟨rfl,rfl⟩
 have kL:=dI ql.nL ql.dL qh.nL qh.dL (by omega) (bB lo) (bB hi) ⟨ql.nL,ql.dL⟩ ⟨qh.nL,qh.dL⟩
 have zl:dQ (lo.num*(hi.den:Int)) (hi.num*(lo.den:Int))<0↔lo<hi:=gV
 have hgN:ZX.N (gz f h)≤ZX.N f:=(eJ f h).l.mD I.nf.ne
 have hD:aD env.P 87 [Po (gz f h).l] (.int .i64 ((ZX.N (gz f h):Int)-1)):=lA (gz f h).l (by show ZX.N (gz f h)<_;omega)
 have key:=common I.nf I'.nf I.DC I'.DC (by omega) (by omega) A B c8 hlq l1 l2 l3 r1 r2 r3
 obtain⟨w1,S1⟩:=lH (h:=h) I.nf I.DC
 have sn:=S1.N
 have hg:=sP S1.ng.ne S1.sg (by omega)
 have zH:=sP S1.nw.ne S1.sw (by omega)
 have hv:vt (aR f) p.1=vt (aR f) p.2+1:=by
  rcases A.k with ⟨h,_⟩ | ⟨_,h⟩
  ·exact absurd h h1
  ·exact h
 have hH:dQ (lo.num*(hi.den:Int)) (hi.num*(lo.den:Int))<0→(0:Int)<(ZX.N (gz f h):Int)-1→aD env.P 185 [Po (gz f h).l,RT lo,RT hi] (.bool (decide (vt (aR (gz f h)) hi<vt (aR (gz f h)) lo))):=fun z1 z2=>by
  obtain⟨sg,ng,IGG,QR⟩:=IG (by omega)
  have hlh:=zl.1 z1
  have c1:=S1.F6 A.S hg zH (Rat.le_of_lt hlh)
  have m1:=zH.b8 (Rat.le_of_lt hlh)
  have v1:=A.S.b8 l2
  have v2:=A.S.b8 r2
  exact ZQ IGG QR hlh (by omega) ql qh hU
 have hgc:vt (aR (gz f h)) hi<vt (aR (gz f h)) lo→lo<hi→2≤ZX.N (gz f h):=fun hz hlh=>Nat.not_lt.1 fun h2=>by
  obtain⟨d,hd,e⟩:=ZX.lC (x:=gz f h) (by have:=ZX.aI.1 S1.ng.ne;omega)
  rw [e]at hz hg
  have:=hg.const hlh (σ:=cH (d:Rat)) (.inr (by rw [CN])) (fun x _ _=>by rw [CN])
  omega
 by_cases qH:∀x,bK f p x↔bK h q x
 ·obtain⟨c1,c2⟩:=key.2 qH
  rw [ZI.2 qH]
  have c3:=hgc c2 c1
  refine ZV (v:=GA f p) (w:=GA h q) (hn:=hi.num) (hd:=(hi.den:Int)) Nx Ny P1 P2 kM kD xG kL (fun _=>hG) (fun _=>hD) hH (fun _=>rfl) (fun HT=>?_) ⟨_,_,_,_,rfl⟩ ⟨_,_,_,_,rfl⟩
  exact absurd ⟨zl.2 c1,by omega,decide_eq_true c2⟩ HT
 ·have HT:¬(dQ (lo.num*(hi.den:Int)) (hi.num*(lo.den:Int))<0∧(0:Int)<(ZX.N (gz f h):Int)-1∧decide (vt (aR (gz f h)) hi<vt (aR (gz f h)) lo)=true):=fun⟨z1,_,z3⟩=>qH (key.1 ⟨zl.1 z1,of_decide_eq_true z3⟩)
  obtain⟨M,R,hM1,hM2⟩:=JN (u:=u+u') (ad:=p.1.den) (bd:=p.2.den) (cd:=q.1.den) (dd:=q.2.den) I.ch.bz I'.ch.bz (by omega) (by omega) (by omega) (by omega) (Nat.lt_of_lt_of_le (iK (b:=2) (by decide) p.1.num) (Nat.pow_le_pow_right (by decide) a1.n2)) (Nat.lt_of_lt_of_le (iK (b:=2) (by decide) p.2.num) (Nat.pow_le_pow_right (by decide) a2.n2)) (Nat.lt_of_lt_of_le (iK (b:=2) (by decide) q.1.num) (Nat.pow_le_pow_right (by decide) b1.n2)) (Nat.lt_of_lt_of_le (iK (b:=2) (by decide) q.2.num) (Nat.pow_le_pow_right (by decide) b2.n2)) (by omega)
  have zf:=B9 I.ch.bz
  have zh:=B9 I'.ch.bz
  have hMb:4*(ZX.N f+ZX.N h)*(zs f+zs h+(ZX.N f+ZX.N h)+8)≤4*16*(100000+100000+16+8):=Nat.mul_le_mul (by omega) (by omega)
  obtain⟨J,hJ,iP,hj⟩:=agh a b qH c8 hlq hM1
  obtain⟨D,C2,xC,g1,g2⟩:=B8 a1 a2
  obtain⟨D',V0,V1,g3,g4⟩:=B8 b1 b2
  have spec:=y7 A B g1 g2 g3 g4
  have hV:3*(u+u')+M+2≤1000000000:=by omega
  have sqj:=fun j (hjM:j≤M)=>al7 (M:=M) C2 xC (spec j).2.2.2.2.1 (spec j).2.2.2.2.2.1 hjM
  have awh:=fun j (hjM:j≤M)=>al7 (M:=M) V0 V1 (spec j).2.2.2.2.2.2.1 (spec j).2.2.2.2.2.2.2 hjM
  obtain⟨J1,J2,_⟩:=sqj J (by omega)
  obtain⟨J3,J4,_⟩:=awh J (by omega)
  have c1:=dI J2.nL J2.dL J3.nL J3.dL (by omega) (bB (st f h p q J).1.2) (bB (st f h p q J).2.1) ⟨J2.nL,J2.dL⟩ ⟨J3.nL,J3.dL⟩
  have c2:=dI J4.nL J4.dL J1.nL J1.dL (by omega) (bB (st f h p q J).2.2) (bB (st f h p q J).1.1) ⟨J4.nL,J4.dL⟩ ⟨J1.nL,J1.dL⟩
  have PJ:=kI (x:=f.l) J1 J2 hV
  have PJ':=kI (x:=h.l) J3 J4 hV
  obtain⟨s1,s2,s3,s4,_⟩:=spec J
  have hsJ:¬ ∀x,bK f (st f h p q J).1 x↔bK h (st f h p q J).2 x:=fun hh=>qH fun x=>((s3 x).symm.trans (hh x)).trans (s4 x)
  have both:∀ {z:Rat},(st f h p q J).1.2≤(st f h p q J).1.1→(st f h p q J).2.2≤(st f h p q J).2.1→(st f h p q J).1.1=z→(st f h p q J).2.1=z→False:=fun {z} e1 e2 e3 e4=>hsJ fun x=>by
   have i1:=s1.le
   have i2:=s2.le
   rw [jQ (by grind) x,jQ (by grind) x,e3,e4]
  have hc:(dQ ((st f h p q J).1.2.num*((st f h p q J).2.1.den:Int)) ((st f h p q J).2.1.num*((st f h p q J).1.2.den:Int))≤0∧cu (bK f p) (bK h q) = -1)∨(0<dQ ((st f h p q J).1.2.num*((st f h p q J).2.1.den:Int)) ((st f h p q J).2.1.num*((st f h p q J).1.2.den:Int))∧dQ ((st f h p q J).2.2.num*((st f h p q J).1.1.den:Int)) ((st f h p q J).1.1.num*((st f h p q J).2.2.den:Int))≤0∧cu (bK f p) (bK h q)=1):=by
   rw [←lI s3 s4]
   by_cases h3:(st f h p q J).1.2≤(st f h p q J).2.1
   ·exact .inl ⟨jN.2 h3,ajG (fun s t=>s1.up) eO (fun t=>lo_le s2) h3 hsJ⟩
   ·exact .inr ⟨fW.2 (Rat.not_le.1 h3),jN.2 (iP.resolve_left h3),ajH (fun s t=>s2.up) eO (fun t=>lo_le s1) (iP.resolve_left h3) hsJ⟩
  have W:=WK (an:=fun j=>(st f h p q j).1.1.num) (ad:=fun j=>(st f h p q j).1.1.den) (bn:=fun j=>(st f h p q j).1.2.num) (bd:=fun j=>(st f h p q j).1.2.den) (cn:=fun j=>(st f h p q j).2.1.num) (cd:=fun j=>(st f h p q j).2.1.den) (dn:=fun j=>(st f h p q j).2.2.num) (dd:=fun j=>(st f h p q j).2.2.den) R (by omega) (fun j hjJ=>by
   obtain⟨J1,J2,J12⟩:=sqj j (by omega)
   obtain⟨J3,J4,J34⟩:=awh j (by omega)
   obtain⟨m1,m2⟩:=not_or.1 (hj j hjJ)
   have c1:=dI J2.nL J2.dL J3.nL J3.dL (by omega) (bB (st f h p q j).1.2) (bB (st f h p q j).2.1) ⟨J2.nL,J2.dL⟩ ⟨J3.nL,J3.dL⟩
   have c2:=dI J4.nL J4.dL J1.nL J1.dL (by omega) (bB (st f h p q j).2.2) (bB (st f h p q j).1.1) ⟨J4.nL,J4.dL⟩ ⟨J1.nL,J1.dL⟩
   have d1:=JO (J2.LLs (Nat.le_refl _)) (J1.LLs (Nat.le_refl _)) (by omega)
   have d2:=JO (J4.LLs (Nat.le_refl _)) (J3.LLs (Nat.le_refl _)) (by omega)
   have w1:=(agm C2 xC (spec j).2.2.2.2.1 (spec j).2.2.2.2.2.1).mono (show u+u'+1+2*(u+u')+j+1≤3*(u+u')+M+2 by omega)
   have w2:=(agm V0 V1 (spec j).2.2.2.2.2.2.1 (spec j).2.2.2.2.2.2.2).mono (show u+u'+1+2*(u+u')+j+1≤3*(u+u')+M+2 by omega)
   have c3:=dI w1.nL w1.dL w2.nL w2.dL (by omega) (bB ((st f h p q j).1.2-(st f h p q j).1.1)) (bB ((st f h p q j).2.2-(st f h p q j).2.1)) ⟨w1.nL,w1.dL⟩ ⟨w2.nL,w2.dL⟩
   have H1:=F8 I (by omega) (spec j).1 J1 J2 J12 hV
   have H2:=F8 I' (by omega) (spec j).2.1 J3 J4 J34 hV
   refine⟨⟨_,c1,fW.2 (Rat.not_le.1 m1)⟩,⟨_,c2,fW.2 (Rat.not_le.1 m2)⟩,_,_,_,_,_,d1,d2,c3,?_⟩
   have e1:st f h p q (j+1)=if (st f h p q j).2.2-(st f h p q j).2.1≤(st f h p q j).1.2-(st f h p q j).1.1 then(vC f (st f h p q j).1,(st f h p q j).2)else((st f h p q j).1,vC h (st f h p q j).2):=rfl
   by_cases hw:(st f h p q j).2.2-(st f h p q j).2.1≤(st f h p q j).1.2-(st f h p q j).1.1
   ·rw [if_pos hw]at e1
    rw [if_pos (Int.not_lt.1 fun hh=>absurd (gV.1 hh) (Rat.not_lt.2 hw)),e1]
    exact⟨H1,rfl⟩
   ·rw [if_neg hw]at e1
    rw [if_neg (Int.not_le.2 (gV.2 (Rat.not_le.1 hw))),e1]
    exact⟨H2,rfl⟩) hJ c1 c2 PJ PJ' (fun ⟨e1,e2,e3⟩=>both (of_decide_eq_true e1) (of_decide_eq_true e2) (z:=(st f h p q J).2.1) (by
   have i1:=s1.le
   have i4:=of_decide_eq_true e1
   have:=jM.1 e3
   grind) rfl) (fun ⟨e1,e2,e3⟩=>both (of_decide_eq_true e1) (of_decide_eq_true e2) (z:=(st f h p q J).1.1) rfl (by
   have i2:=s2.le
   have i4:=of_decide_eq_true e2
   have:=jM.1 e3
   grind)) hc
  refine ZV (hn:=hi.num) (hd:=(hi.den:Int)) Nx Ny P1 P2 kM kD xG kL (fun _=>hG) (fun _=>hD) hH (fun hh=>absurd hh HT) (fun _=>W) ⟨_,_,_,_,rfl⟩ ⟨_,_,_,_,rfl⟩
end Go.Proofs.YtelhfbikiccfkaaGreat
namespace Go.Proofs.YtelhfbikiccfkaaGreat
open Go Pm
theorem al8(a b:ZX):FM [a,b]=gz a b:=by
 show gz (gz 0 a) b=_
 rw [QK,YP]
theorem awi(a:ZX):FM [a]=nf a:=by
 show gz 0 a=_
 rw [QK]
theorem agn{C n s:Nat}{a c:ZX}(ha:ZX.N a≤n)(hc:ZX.N c≤n)(h:(s+n+1)*2*4^n≤C):BX C n s (nf a) (nf c):=by
 unfold BX
 rw [yM,yM]
 have h1:∀k,k≤n→(s+n+1)*2*4^k≤C:=fun k hk=>Nat.le_trans (Nat.mul_le_mul_left _ (Nat.pow_le_pow_right (by decide) hk)) h
 split
 ·refine Nat.le_trans (Nat.mul_le_mul_right _ ?_) (h1 _ ha)
  omega
 ·exact h1 _ hc
structure Eu(s n:Nat):Prop where
 hn:n≤20
 hs:1≤s
 hC:(s+n+1)*2*4^n≤4500000000
theorem Eu.two{s n:Nat}(h:Eu s n){a c:ZX}(ba:BZ s n a)(bc:BZ s n c):aD env.P 157 [Po a.l,Po c.l] (Po (gz a c).l):=YU ba bc (agn ba.N bc.N h.hC) h.hn (Nat.le_refl _)
theorem Eu.qg{s n:Nat}(h:Eu s n){a c:ZX}(ba:BZ s n a)(bc:BZ s n c):aD env.P 208 [PI a.l,PI c.l] (PI (gz a c).l):=AF ba bc (agn ba.N bc.N h.hC) h.hn (Nat.le_refl _) h.hs
theorem ajI(s n:Nat):BZ s n 0:=⟨Nat.zero_le _,fun c hc=>by cases hc⟩
theorem Eu.apt{s n:Nat}(h:Eu s n){a c:ZX}(ba:BZ s n a)(bc:BZ s n c):aD env.P 184 [.sl [[Po a.l],[Po c.l]]] (Po (gz a c).l):=by
 have:=aje [a,c] (by simp) (fun i hi=>by
  match i,hi with
  | 0,_=>exact h.two (ajI s n) ba
  | 1,_ =>
   have e:FM ([a,c].take 1)=nf a:=awi a
   rw [e]
   have:=h.two ba.nf bc
   rw [show FM ([a,c].take (1+1))=gz (nf a) c from by rw [YP];exact al8 a c]
   exact this)
 rw [al8]at this
 exact this
end Go.Proofs.YtelhfbikiccfkaaGreat
namespace Go.Proofs.YtelhfbikiccfkaaGreat
open Go Pm
open ZX hiding N W
theorem ZW{s n:Nat}{f:ZX}{p:Rat × Rat}(I:lL s n f)(hs:s≤100000)(n8:ZX.N f≤8)(hp:p∈B7 s n f):AN s n (uu s) f p∧AN s n (uu s) f (ex f p):=by
 obtain⟨a1,a2,a3,a4,a5,a6⟩:=I.ivs.mem _ hp
 obtain⟨_,_,b1,b2,b3⟩:=I.root hp
 have hb:=MP I.nf (RH I.ch.bz)
 have h1:Ab p.1 (2^(zs f+1)):=by obtain⟨x,y⟩:=hb;exact⟨by grind,by grind⟩
 have h2:Ab p.2 (2^(zs f+1)):=by obtain⟨x,y⟩:=hb;exact⟨by grind,by grind⟩
 have hu:uu s≤30000000:=by unfold uu;omega
 refine⟨⟨I,hs,⟨I.S, .inr ⟨a4,a6⟩⟩,a1,a2,hu,n8,fun _=>h1,fun _=>h2⟩,⟨I,hs,b1,b2,b3,hu,n8,fun _=>?_,fun _=>?_⟩⟩
 ·unfold ex
  split
  ·exact h2
  ·exact h1
 ·unfold ex
  split<;>exact h2
theorem ZY(t:Rat):Nf (oN t):=by
 have hd:=t.den_pos
 refine⟨ZX.aI.2 (by rw [AL];decide),?_,?_⟩
 ·rw [tZ]
  unfold bV
  simp only [List.foldl_cons,List.foldl_nil,Nat.gcd_zero_left,Int.natAbs_neg,Int.natAbs_natCast]
  exact t.reduced
 ·rw [tZ]
  show 0<nth [-t.num,(t.den:Int)] 1
  show(0:Int)<(t.den:Int)
  omega
theorem ago(t:Rat):sN (oN t) (b9 (oN t)):=fun d _ h2=>by
 rw [afZ]at h2
 have hd:=t.den_pos
 have:=h2.mD (ZX.sJ (show (t.den:Int)≠0 by omega))
 rwa [ZX.N_K (show (t.den:Int)≠0 by omega)]at this
theorem RL{t:Rat}{s n:Nat}(sb:t.num.natAbs≤30∧((t.den:Int)).natAbs≤6)(hs:5≤s)(hn:2≤n)(h1:n≤20)(h2:n+1≤2^s)(h3:(qb s n+n+6)*4^n≤4500000000)(h4:s≤5000000):lL s n (oN t):=by
 have bz:BZ s n (oN t):=⟨by show ZX.N (oN t)≤_;rw [AL];exact hn,fun c hc=>by
  rw [tZ]at hc
  simp only [List.mem_cons,List.not_mem_nil,or_false]at hc
  refine Nat.le_trans (oL (k:=5) ?_) hs
  rcases hc with rfl | rfl<;>omega⟩
 exact⟨⟨bz,h1,h2,h3⟩,by omega,ZY t,MM (ZY t) (ago t),h4⟩
theorem al9{s n:Nat}{f:ZX}{t:Rat}(I:lL s n f)(hs:s≤100000)(n8:ZX.N f≤8)(h0:e t f=0){u:Nat}(q:SQ u t)(hu:u≤30000000):AN s n u f (t,t)∧Ex f (t,t):=
 ⟨⟨I,hs,⟨I.S, .inl ⟨rfl,h0⟩⟩,q,q,hu,n8,fun h=>absurd h Rat.lt_irrefl,fun h=>absurd h Rat.lt_irrefl⟩,fun _=>rfl⟩
theorem CA(t:Rat):e t (oN t)=0:=by rw [apA];grind
theorem agp{l:List Int}{k:Int}(hl:l.length<9223372036854775808)(hk : -9223372036854775808≤k∧k<9223372036854775808):∃(f:ZX) (p:Rat × Rat),aD env.P 28 [aG aH l, .int .i64 k] (QA f (aR f) p)∧AN 59 5 7000 f p∧Ex f p∧ZX.N f≤5∧BZ 49 5 f:=by
 obtain⟨c,hc⟩:∃c,c=pks l (min l.length 5):=⟨_,rfl⟩
 have gH:c.length≤5:=by rw [hc,MT];omega
 have hcb:∀x∈c, -6≤x∧x≤6:=fun x hx=>by
  rw [hc]at hx
  simp only [pks,List.mem_map]at hx
  obtain⟨i,_,rfl⟩:=hx
  exact al6 l i
 have hOf:=K7 c (by omega) (fun x hx=>by have:=hcb x hx;omega)
 rw [show aL c=(ZX.of c).l from rfl,hc]at hOf
 have ba:BZ 3 5 (ZX.of c):=afq (Nat.le_trans (cG c) gH) fun x hx=>by have:=hcb x (oA _ _ hx);omega
 have bx:∀y∈(ZX.of c).l,y.natAbs≤2^3:=fun y hy=>by have:=hcb y (oA _ _ hy);omega
 rw [←hc]at hOf
 generalize ZX.of c=a at *
 have hS:=JC k l.length hk (by omega)
 have q5:=afv k l.length
 have sb:=VJ k l.length
 generalize sml k l.length=t at *
 rw [cS]at hS
 have It:=RL (s:=59) (n:=5) sb (by decide) (by decide) (by decide) (by decide) (by decide) (by decide)
 have hR:=vS (n:=t.num) (d:=t.den) (by omega) (by omega) (by have:=t.den_pos;omega) (tZ t)
 rw [It.sq]at hR
 have agq:aD env.P 45 [R2 t.num t.den] (.ag (gB (oN t).l (aR (oN t)) t.num t.den t.num t.den)):=by rw [tZ];exact hR
 obtain⟨At,Et⟩:=al9 (u:=7000) It (by decide) (by rw [AL];decide) (CA t) (q5.mono (by decide)) (by decide)
 have bt:BZ 49 5 (oN t):=⟨by show ZX.N (oN t)≤_;rw [AL];decide,fun c hc=>by
  rw [tZ]at hc
  simp only [List.mem_cons,List.not_mem_nil,or_false]at hc
  refine Nat.le_trans (oL (k:=5) ?_) (by decide)
  rcases hc with rfl | rfl<;>omega⟩
 have fin:∀ {r:PV},r = .ag (gB (oN t).l (aR (oN t)) t.num t.den t.num t.den)→aD env.P 28 [aG aH l, .int .i64 k] r → ∃(f:ZX) (p:Rat × Rat),aD env.P 28 [aG aH l, .int .i64 k] (QA f (aR f) p)∧AN 59 5 7000 f p∧Ex f p∧ZX.N f≤5∧BZ 49 5 f:=fun {r} hr h=>⟨oN t,(t,t),by rw [hr]at h;exact h,At,Et,by rw [AL];decide,bt⟩
 have hNl:a.l.length=ZX.N a:=rfl
 have hal:a.l.length≤5:=ba.N
 by_cases h2:a.l.length<2
 ·refine fin rfl (AV (f:=oN t) (L:=[]) (C:=[]) hl hk (hc▸hOf) (by omega) (by decide) hS agq (fun h=>absurd h (by omega)) ?_)
  rw [if_pos (.inl h2)]
 ·have h0:a≠0:=ZX.aI.2 (by omega)
  have La:=aby ba
  have I:=apL La h0 (by decide) (by decide) (by decide)
  have hRo:=F5 (rM La (by decide)) (rO La h0 (by decide) (by decide)) I I.s1
  have nN:ZX.N (sq a)≤5:=I.ch.bz.N
  have bs:BZ 49 5 (sq a):=⟨nN,fun x hx=>by
   have:=af9 (l:=3) (n:=5) (jK h0) I.nf (B6 h0).2 (h:=3) (fun d hd=>by
    have b1:=(La.bz.nf).lt d hd
    omega) (by rw [yM];exact ba.N) (by decide) x hx
   exact cQ (by decide) (Nat.lt_of_le_of_lt this (by decide))⟩
  have hlen:=yX I
  generalize eB:B7 (qb 3 5) 5 (sq a)=L0 at *
  by_cases h3:L0 = []
  ·refine fin rfl (AV (f:=sq a) (L:=L0.map (ex (sq a))) (C:=[]) hl hk (hc▸hOf) (by omega) (by rw [List.length_map];omega) hS agq (fun _=>hRo) ?_)
   rw [if_pos (.inr (by rw [h3];rfl))]
  ·have hW:=AV (f:=sq a) (L:=L0.map (ex (sq a))) (C:=[]) hl hk (hc▸hOf) (by omega) (by rw [List.length_map];omega) hS agq (fun _=>hRo) rfl
   rw [if_neg (by rw [not_or];exact⟨h2,by simp [h3]⟩)]at hW
   have hLp:=List.length_pos_iff.2 h3
   have IE:=Int.emod_nonneg k (show (L0.length:Int)≠0 by omega)
   have hm2:=Int.emod_lt_of_pos k (show (0:Int)<L0.length by omega)
   have hj:(k%((L0.map (ex (sq a))).length:Int)).toNat<L0.length:=by rw [List.length_map];omega
   generalize (k%((L0.map (ex (sq a))).length:Int)).toNat=j at *
   have hn:nth (L0.map (ex (sq a))) j=ex (sq a) (nth L0 j):=by rw [dE (by rw [List.length_map];exact hj),List.getElem_map,dE hj]
   rw [hn]at hW
   have A:=(ZW I (by decide) (by omega) (p:=nth L0 j) (by rw [eB];exact bS hj)).2
   exact⟨sq a,ex (sq a) (nth L0 j),hW,⟨A.I,A.hs,A.A,A.q1.mono (by decide),A.q2.mono (by decide),by decide,A.n8,A.b1,A.b2⟩,al5 _ _,nN,bs⟩
structure SzC(s n S k:Nat):Prop where
 h1:(qb (qb s n) n+n+6)*4^n≤4500000000
 h2:qb s n≤1000000
 hE:(max s (S+5*k)+max n k+1)*2*4^max n k≤4500000000
 hL:(qb (S+5*k) k+k+6)*4^k≤4500000000
 hk:1≤k
 h8:k≤8
 hS:k+1≤2^(S+5*k)
 hS2:S+5*k≤100000
theorem SzC.lay{s n S k:Nat}(z:SzC s n S k){q:ZX}(bq:BZ (S+5*k) k q):sM (S+5*k) k q:=⟨bq,by have:=z.h8;omega,z.hS,z.hL⟩
theorem SzC.s1{s n S k:Nat}(z:SzC s n S k):1≤S+5*k:=by have:=z.hk;omega
theorem SzC.eu{s n S k:Nat}(z:SzC s n S k)(hn:n≤20):Eu (max s (S+5*k)) (max n k):=⟨by have:=z.h8;omega,by have:=z.s1;omega,z.hE⟩
section
variable {s n u S k:Nat} {f:ZX} {p:Rat × Rat} (a:AN s n u f p) (z:SzC s n S k)
include a z
theorem AN.sgC{q:ZX}(bq:BZ (S+5*k) k q):SgC (S+5*k) k f q:=by
 have I:=a.I
 have L:=z.lay bq
 have E:=z.eu I.ch.hn
 refine⟨bq,z.hS2,by have:=z.h8;omega,by have:=bq.N;have:=z.h8;omega,E.apt (bq.mono (by omega) (by omega)) (I.ch.bz.mono (by omega) (by omega)),fun _=>⟨_,_,agi I q z.h1 (by have:=z.h2;omega),z.h2⟩,fun h0=>⟨_,_,L.ch h0 z.hk⟩,fun h0=>L7 (wT L) (L.ch h0 z.hk) (B6 h0).1⟩
theorem AN.qgC{q:ZX}(bq:BZ (S+5*k) k q):QgC (S+5*k) k f q:=by
 have I:=a.I
 have L:=z.lay bq
 have E:=z.eu I.ch.hn
 refine⟨bq,z.hS2,by have:=z.h8;omega,by have:=bq.N;have:=z.h8;omega,E.qg (bq.mono (by omega) (by omega)) (I.ch.bz.mono (by omega) (by omega)),fun _=>⟨_,_,agi I q z.h1 (by have:=z.h2;omega)⟩,fun h0=>⟨_,_,L.ch h0 z.hk⟩,fun h0=>rO L h0 z.hk z.s1⟩
end
theorem AN.sg0{s n u:Nat}{f:ZX}{p:Rat × Rat}(a:AN s n u f p):WE (bK f p) 0=0:=(show MO (bK f p) 0 0 from .inl ⟨rfl,uC (cT a.A)⟩).eq (cT a.A)
noncomputable def MU(U:Rat→Prop)(q:ZX):Int:=JI (WE U) (ZX.N q) q
section
variable {s n u S k:Nat} {f:ZX} {p:Rat × Rat} (a:AN s n u f p) (z:SzC s n S k) {q:ZX} (bq:BZ S k q)
include a z bq
theorem AN.at:aD env.P 32 [Po q.l,GA f p] (.int .i64 (MU (bK f p) q)):=
 ajC (WE (bK f p)) a.sg0 bq (by have:=z.h8;omega) (by have:=z.hS2;omega) fun r s' zC br=>a.sg (a.sgC z (br.mono zC (Nat.le_refl _)))
theorem AN.MV(hx:Ex f p):aD env.P 35 [PI q.l,QA f (aR f) p] (.int .i64 (MU (bK f p) q)):=
 WI (WE (bK f p)) a.sg0 bq (by have:=z.h8;omega) (by have:=z.hS2;omega) fun r s' zC br=>a.qsg hx (a.qgC z (br.mono zC (Nat.le_refl _)))
end
theorem AN.af{s n u:Nat}{f:ZX}{p:Rat × Rat}(a:AN s n u f p){q:ZX}(h0:q≠0)(hN:ZX.N q≤20):Af (bK f p) q (MU (bK f p) q):=
 af8 (cT a.A) (fun r hr=>apQ a.I.nf a.I.sq a.I.DC (by have:=a.I.ch.hn;have:=a.n8;omega) a.A r hr) _ q (Nat.le_refl _) hN h0
theorem agr{x:List Int}{c:List ZX}{an ad bn bd:Int}(hT:aD env.P 33 [PI x] (Po x))(h1:aD env.P 24 [R2 an ad] (T2 an ad))(h2:aD env.P 24 [R2 bn bd] (T2 bn bd)):aD env.P 34 [.ag (gB x c an ad bn bd)] (.ag (G9 x an ad bn bd)):=by
 simp only [gB,G9]
 refine b6 [(0, .ag (gB x c an ad bn bd))] Tryz.func34 ?_
 refine aA [1,2] ?_
 refine iQ ?_
 refine bW hT ?_
 refine bW h1 ?_
 refine aB h2 ?_
 (try (refine a9 (of_decide_eq_true (by kernel_rfl)) ?_));(try simp (maxSteps:=4000000) (disch:=omega) [gw]);(repeat rw [if_pos (by kernel_rfl)]);(try simp (maxSteps:=4000000) (disch:=omega) [gw])
 refine bN [2] ?_
 exact b7
theorem AN.toA{s n u:Nat}{f:ZX}{p:Rat × Rat}(a:AN s n u f p):aD env.P 34 [QA f (aR f) p] (GA f p):=by
 have hu:=a.hu
 have h1:=a.q1.tor (show u≤137438953472 by omega)
 have h2:=a.q2.tor (show u≤137438953472 by omega)
 rw [cS]at h1 h2
 exact agr (Y6 a.I.ch.bz (by have:=a.hs;omega) (by have:=a.I.ch.hn;omega)) h1 h2
end Go.Proofs.YtelhfbikiccfkaaGreat
