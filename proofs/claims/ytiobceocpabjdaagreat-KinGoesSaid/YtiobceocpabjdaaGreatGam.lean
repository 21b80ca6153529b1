import Derived.DeepKeys
import Derived.Test.YtiobceocpabjdaaGreatGah
import Derived.Test.YtiobceocpabjdaaGreatGai
import Derived.Test.YtiobceocpabjdaaGreatGak
import Derived.Test.YtiobceocpabjdaaGreatGal
set_option linter.unusedSimpArgs false
set_option linter.unusedVariables false
namespace Go.Proofs.YtiobceocpabjdaaGreat
open Go Pm
open ZX hiding N W
variable {s n u u' D j:Nat}{f h:ZX}{p q:Rat × Rat}{r r':Rat}
theorem F7(I:kS s n f)(h:ZX)(hC:(qb (qb s n) n+n+6)*4^n<=4500000000)(hq:qb s n<=5000000):kS (qb s n) n (gz h f):=by
 have nd:Nf (gz h f):=yj (.inr I.nf.ne);have hd:dv (gz h f) f:=(ek h f).r;obtain⟨w,nw,e⟩:=I.nf.quo nd hd;have hD:bQ f=bQ w*gz h f+w*bQ (gz h f):=by have h1:=congrArg bQ e;rwa [sI]at h1
 refine⟨⟨I.lay.dv I.nf nd hd,I.lay.hn,Nat.le_trans I.lay.hs (Nat.pow_le_pow_right ar (by unfold qb;omega)),hC⟩,I.qe,nd,F0 nd fun d h1 h2=>I.DZ d (h1.trans hd) (by rw [hD];exact(h1.mul_left _).add (h2.mul_left _)),hq⟩
section
variable {s n s' n' S N:Nat} {f h:ZX} (I:kS s n f) (I':kS s' n' h) (ni:s<=S) (Gu:s'<=S) (qe:n<=N) (UB:n'<=N) (hN:N<=20)
include I I' ni Gu qe UB hN
theorem atI(hNS:N+1<=2^S):Two S N f h:=⟨I.nf,I'.nf,I.DZ,I'.DZ,fun c hc=>Nat.le_trans (I.szf c hc) (Nat.pow_le_pow_right ar ni),fun c hc=>Nat.le_trans (I'.szf c hc) (Nat.pow_le_pow_right ar Gu),
 Nat.le_trans I.ch.bz.N qe,Nat.le_trans I'.ch.bz.N UB,hN,hNS⟩
theorem aha(hC:(S+N+1)*2*4^N<=4500000000):aj 203 [PI h.l,PI f.l] (PI (gz h f).l):=by
 refine xq (C:=4500000000) (I'.ch.bz.mono Gu UB) (I.ch.bz.mono ni qe) ?_ hN ar (Nat.le_trans I.s1 ni);rw [I.nf.XO,I'.nf.XO];have h1:(4:Nat)^ZX.N h<=4^N:=Nat.pow_le_pow_right ar (Nat.le_trans I'.ch.bz.N UB);have h2:(4:Nat)^ZX.N f<=4^N:=Nat.pow_le_pow_right ar (Nat.le_trans I.ch.bz.N qe);unfold ym
 split
 ·exact Nat.le_trans (Nat.mul_le_mul aa h1) hC
 ·exact Nat.le_trans (Nat.mul_le_mul (Nat.le_refl _) h2) hC
theorem atK(hNS:N+1<=2^S)(hS:S<=20000)(hC:(S+N+1)*2*4^N<=4500000000)(hC2:(qb (qb s n) n+n+6)*4^n<=4500000000)(hq:qb s n<=5000000)(A:j7 f (vt (aH f)) p.1 p.2)(B:j7 h (vt (aH h)) q.1 q.2)(p1:SQ u p.1)(p2:SQ u p.2)(q1:SQ u q.1)(q2:SQ u q.2)(hu:u<=2200000) :
  aj 48 [QA f (aH f) p,QA h (aH h) q] (ae (cu (bk f p) (bk h q))):=
 Wt I I' (atI I I' ni Gu qe UB hN hNS) hS (aha I I' ni Gu qe UB hN hC) (fun _=>⟨_,_,F7 I h hC2 hq⟩) A B p1 p2 q1 q2 hu
end
theorem kS.root(I:kS s n f)(hp:p∈BO s n f):SQ (uu s) p.1∧SQ (uu s) p.2∧j7 f (vt (aH f)) (ex f p).1 (ex f p).2∧SQ (uu s) (ex f p).1∧SQ (uu s) (ex f p).2:=by obtain⟨a1,a2,a3,a4,a5,a6⟩:=I.ivs.mem _ hp;refine⟨a1,a2,(mc ⟨I.S, .inr ⟨a4,a6⟩⟩).1,?_,?_⟩<;>(unfold ex;split<;>assumption)
theorem common(nf:Nf f)(nh:Nf h)(cf:rS f (bQ f))(ch:rS h (bQ h))(n8:ZX.N f<=20)(m8:ZX.N h<=20)(A:j7 f (vt (aH f)) p.1 p.2)(B:j7 h (vt (aH h)) q.1 q.2)(hp:p.1<p.2)(hq:q.1<q.2){lo hi:Rat}(l1:lo=p.1∨lo=q.1)(l2:p.1<=lo)(l3:q.1<=lo)(r1:hi=p.2∨hi=q.2)(r2:hi<=p.2)(r3:hi<=q.2) :
  (lo<hi∧vt (aH (gz f h)) hi<vt (aH (gz f h)) lo) ↔ ∀x,bk f p x↔bk h q x:=by
 obtain⟨w1,S1⟩:=j9 (h:=h) nf cf;obtain⟨w2,S2⟩:=j9 (h:=f) nh ch;rw [<-pv]at S2;have n1:=S1.N;have n2:=S2.N;have hg:=rV S1.ng.ne S1.sg aa;have wK:=rV S1.nw.ne S1.sw aa;have ND:=rV S2.nw.ne S2.sw aa
 have hv:vt (aH f) p.1=vt (aH f) p.2+1:=by
  rcases A.k with ⟨h,_⟩ | ⟨_,h⟩
  ·grind
  ·exact h
 have JO:vt (aH h) q.1=vt (aH h) q.2+1:=by
  rcases B.k with ⟨h,_⟩ | ⟨_,h⟩
  ·grind
  ·exact h
 constructor
 ·rintro⟨bZ,hγ⟩;have c1:=S1.BP A.S hg wK (Rat.le_of_lt bZ);have c2:=S2.BP B.S hg ND (Rat.le_of_lt bZ);have m1:=wK.bI (Rat.le_of_lt bZ);have m2:=ND.bI (Rat.le_of_lt bZ);have v1:=A.S.bI l2;have v2:=A.S.bI r2;have u1:=B.S.bI l3;have u2:=B.S.bI r3
  have a1:¬bk f p lo:=by
   rintro(h | ⟨_,h⟩)
   ·grind
   ·omega
  have b1:¬bk h q lo:=by
   rintro(h | ⟨_,h⟩)
   ·grind
   ·omega
  have a2:bk f p hi:=.inr ⟨aG,aa⟩;have b2:bk h q hi:=.inr ⟨aG,aa⟩;exact wm A B S1 S2 hg wK ND bZ a1 a2 b1 b2 aa aa hγ
 ·intro hx
  have a1:¬bk f p lo:=by
   rcases l1 with h | h
   ·rw [h];exact A.gk (.inr ⟨rfl,hp⟩)
   ·rw [h];exact fun h2=>B.gk (.inr ⟨rfl,hq⟩) ((hx _).1 h2)
  have a2:bk f p hi:=by
   rcases r1 with h | h
   ·rw [h];exact dZ
   ·rw [h];exact(hx _).2 dZ
  have bZ:=(cR A).lt a1 a2;refine⟨bZ,Nat.not_le.1 fun hγ=>?_⟩;obtain⟨B0,hB0,ab1,ab2⟩:=iU lo hi;obtain⟨δ,hδ,wZ⟩:=FZ wK B.S S1.wh B0;obtain⟨a,b,g1,g2,g3,g4,g5,g6⟩:=zH (U:=bk f p) hδ bZ a1 a2;have o1:=iW A g5 g6 g2;have o2:=iW B (fun hh=>g5 ((hx _).2 hh)) ((hx _).1 g6) g2;have k1:=S1.BP A.S hg wK (Rat.le_of_lt g2);have x1:=hg.bI g1;have x2:=hg.bI g3;have x3:=hg.bI (Rat.le_of_lt g2);rcases wZ a b (bR ab1 ab2 g1 aG) (bR ab1 ab2 aG g3) g2 g4 with hh | hh<;>omega
theorem adF{M:Nat}(h1:1<=D)(h2:D<=2^(2*(u+u')))(g:Gr D (2^(u+u')) j r)(g':Gr D (2^(u+u')) j r')(hj:j<=M):SQ (3*(u+u')+M+2) r∧SQ (3*(u+u')+M+2) r'∧SQ (3*(u+u')+M+2) ((r+r')/2):=
 ⟨((g.mono hj).sq h1 h2).mono aa,((g'.mono hj).sq h1 h2).mono aa,((((g.mono hj).A3 (g'.mono hj))).sq h1 h2).mono aa⟩
theorem WQ{β d:Nat}(h1:1<=D)(h2:D<=2^d)(g:Gr D (2^β) j r)(g':Gr D (2^β) j r'):SQ (β+1+d+j+1) (r'-r):=by
 obtain⟨⟨y,hy⟩,b1,b2⟩:=g;obtain⟨⟨z,hz⟩,b3,b4⟩:=g';have:Gr D (2^(β+1)) j (r'-r):=⟨⟨z-y,by rw [Rat.intCast_sub,<-hz,<-hy];grind⟩,by rw [Rat.pow_succ];exact⟨aG,aG⟩⟩
 exact this.sq h1 h2
theorem AN.cmp{s' n':Nat}(a:AN s n u f p)(b:AN s' n' u' h q)(hG:aj 194 [.sl [[Po f.l],[Po h.l]]] (Po (gz f h).l))(IG:2<=ZX.N (gz f h) -> ∃sg ng,kS sg ng (gz f h)∧sg<=1000000) :
  aj 110 [GA f p,GA h q] (ae (cu (bk f p) (bk h q))):=by
 have I:=a.I;have I':=b.I;have A:=a.A;have B:=b.A;have hsa:=a.hs;have hsb:=b.hs;have hua:=a.hu;have hub:=b.hu;have hn:=I.ch.hn;have wX:=I'.ch.hn;have n8:=a.n8;have m8:=b.n8;have Nx:=r9 I.ch.bz aa aa a.q1 a.q2 aa;have Ny:=r9 I'.ch.bz aa aa b.q1 b.q2 aa;have P1:=jH (x:=f.l) a.q1 a.q2 aa;have P2:=jH (x:=h.l) b.q1 b.q2 aa
 by_cases h1:p.1=p.2
 ·rw [decide_eq_true (by rw [h1];exact Rat.le_refl)]at P1;have k:=b.om (v:=u+u') (a.q1.mono aa) aa aa;rw [ka (gW h1) (fun _=>Iff.rfl),IX fun s t=>B.up];exact ag7 Nx Ny (wo _ _) P1 k
 have bZ:p.1<p.2:=by have:=A.le;grind
 rw [decide_eq_false (Rat.not_le.2 bZ)]at P1
 by_cases h2:q.1=q.2
 ·rw [decide_eq_true (by rw [h2];exact Rat.le_refl)]at P2;have k:=a.om (v:=u+u') (b.q1.mono aa) aa aa;rw [ka (fun _=>Iff.rfl) (gW h2),D4 fun s t=>A.up];exact ag8 Nx Ny P1 P2 k
 have hlq:q.1<q.2:=by have:=B.le;grind
 rw [decide_eq_false (Rat.not_le.2 hlq)]at P2;have a1:=a.q1.mono (show u<=u+u' by omega);have a2:=a.q2.mono (show u<=u+u' by omega);have b1:=b.q1.mono (show u'<=u+u' by omega);have b2:=b.q2.mono (show u'<=u+u' by omega);have hU:u+u'<=1000000000:=aa;have kM:=RK a1 b1 hU;have kD:=cX b2.nL b2.dL a2.nL a2.dL aa (aX q.2) (aX p.2) ⟨b2.nL,b2.dL⟩ ⟨a2.nL,a2.dL⟩
 obtain⟨lo,pP,l1,l2,l3,ql⟩:∃lo,lo=(if p.1<q.1 then q.1 else p.1)∧(lo=p.1∨lo=q.1)∧p.1<=lo∧q.1<=lo∧SQ (u+u') lo:=by
  refine⟨_,rfl,?_⟩
  split
  ·exact⟨.inr rfl,aG,Rat.le_refl,b1⟩
  ·exact⟨.inl rfl,Rat.le_refl,aG,a1⟩
 obtain⟨hi,CU,r1,r2,r3,qh⟩:∃hi,hi=(if q.2<p.2 then q.2 else p.2)∧(hi=p.2∨hi=q.2)∧hi<=p.2∧hi<=q.2∧SQ (u+u') hi:=by
  refine⟨_,rfl,?_⟩
  split
  ·exact⟨.inr rfl,aG,Rat.le_refl,b2⟩
  ·exact⟨.inl rfl,Rat.le_refl,aG,a2⟩
 rw [<-pP]at kM
 have uQ:if dc (q.2.num*(p.2.den:Int)) (p.2.num*(q.2.den:Int))<0 then hi.num=q.2.num∧(hi.den:Int)=q.2.den else hi.num=p.2.num∧(hi.den:Int)=p.2.den:=by
  by_cases hh:q.2<p.2
  ·rw [if_pos (fF.2 hh),CU,if_pos hh];exact⟨rfl,rfl⟩
  ·rw [if_neg (fun h3=>hh (fF.1 h3)),CU,if_neg hh];exact⟨rfl,rfl⟩
 have kL:=cX ql.nL ql.dL qh.nL qh.dL aa (aX lo) (aX hi) ⟨ql.nL,ql.dL⟩ ⟨qh.nL,qh.dL⟩;have zl:dc (lo.num*(hi.den:Int)) (hi.num*(lo.den:Int))<0↔lo<hi:=fF;have hgN:ZX.N (gz f h)<=ZX.N f:=(ek f h).l.j2 I.nf.ne;have hD:aj 83 [Po (gz f h).l] (ae ((ZX.N (gz f h):Int)-1)):=j0 (gz f h).l (by show ZX.N (gz f h)<_;omega);have key:=common I.nf I'.nf I.DZ I'.DZ aa aa A B bZ hlq l1 l2 l3 r1 r2 r3;obtain⟨w1,S1⟩:=j9 (h:=h) I.nf I.DZ;have sn:=S1.N;have hg:=rV S1.ng.ne S1.sg aa;have wK:=rV S1.nw.ne S1.sw aa
 have hv:vt (aH f) p.1=vt (aH f) p.2+1:=by
  rcases A.k with ⟨h,_⟩ | ⟨_,h⟩
  ·exact absurd h h1
  ·exact h
 have hH:dc (lo.num*(hi.den:Int)) (hi.num*(lo.den:Int))<0->(0:Int)<(ZX.N (gz f h):Int)-1->aj 195 [Po (gz f h).l,RT lo,RT hi] (.bool (decide (vt (aH (gz f h)) hi<vt (aH (gz f h)) lo))):=fun z1 z2=>by obtain⟨sg,ng,RA,Ir⟩:=IG aa;have So:=zl.1 z1;have c1:=S1.BP A.S hg wK (Rat.le_of_lt So);have m1:=wK.bI (Rat.le_of_lt So);have v1:=A.S.bI l2;have v2:=A.S.bI r2;exact OJ RA Ir So aa ql qh hU
 have hgc:vt (aH (gz f h)) hi<vt (aH (gz f h)) lo->lo<hi->2<=ZX.N (gz f h):=fun hz So=>Nat.not_lt.1 fun h2=>by obtain⟨d,hd,e⟩:=ZX.j1 (x:=gz f h) (by have:=ZX.ax.1 S1.ng.ne;omega);rw [e]at hz hg;have:=hg.const So (σ:=bU (d:Rat)) (.inr (by rw [wN])) (fun x _ _=>by rw [wN]);omega
 by_cases mV:∀x,bk f p x↔bk h q x
 ·obtain⟨c1,c2⟩:=key.2 mV;rw [OC.2 mV];have c3:=hgc c2 c1;refine OP (v:=GA f p) (w:=GA h q) (hn:=hi.num) (hd:=(hi.den:Int)) Nx Ny P1 P2 kM kD uQ kL (fun _=>hG) (fun _=>hD) hH (fun _=>rfl) (fun wZ=>?_) ⟨_,_,_,_,rfl⟩ ⟨_,_,_,_,rfl⟩;exact absurd ⟨zl.2 c1,aa,decide_eq_true c2⟩ wZ
 ·have wZ:¬(dc (lo.num*(hi.den:Int)) (hi.num*(lo.den:Int))<0∧(0:Int)<(ZX.N (gz f h):Int)-1∧decide (vt (aH (gz f h)) hi<vt (aH (gz f h)) lo)=true):=fun⟨z1,_,z3⟩=>mV (key.1 ⟨zl.1 z1,of_decide_eq_true z3⟩);obtain⟨M,R,hM1,hM2⟩:=D9 (u:=u+u') (ad:=p.1.den) (bd:=p.2.den) (cd:=q.1.den) (dd:=q.2.den) I.ch.bz I'.ch.bz aa aa aa aa (Nat.lt_of_lt_of_le (iu (b:=2) ar p.1.num) (Nat.pow_le_pow_right ar a1.n2)) (Nat.lt_of_lt_of_le (iu (b:=2) ar p.2.num) (Nat.pow_le_pow_right ar a2.n2)) (Nat.lt_of_lt_of_le (iu (b:=2) ar q.1.num) (Nat.pow_le_pow_right ar b1.n2)) (Nat.lt_of_lt_of_le (iu (b:=2) ar q.2.num) (Nat.pow_le_pow_right ar b2.n2)) aa;have zf:=yx I.ch.bz;have zh:=yx I'.ch.bz;have hMb:4*(ZX.N f+ZX.N h)*(zs f+zs h+(ZX.N f+ZX.N h)+8)<=4*16*(100000+100000+16+8):=Nat.mul_le_mul aa aa;obtain⟨J,hJ,g9,hj⟩:=WN a b mV bZ hlq hM1;obtain⟨D,Jt,uJ,g1,g2⟩:=yw a1 a2;obtain⟨D',LX,LY,g3,g4⟩:=yw b1 b2;have spec:=wu A B g1 g2 g3 g4;have hV:3*(u+u')+M+2<=1000000000:=aa;have sqj:=fun j (hjM:j<=M)=>adF (M:=M) Jt uJ (spec j).2.2.2.2.1 (spec j).2.2.2.2.2.1 hjM;have aoa:=fun j (hjM:j<=M)=>adF (M:=M) LX LY (spec j).2.2.2.2.2.2.1 (spec j).2.2.2.2.2.2.2 hjM;obtain⟨J1,J2,_⟩:=sqj J aa;obtain⟨J3,J4,_⟩:=aoa J aa;have c1:=cX J2.nL J2.dL J3.nL J3.dL aa (aX (st f h p q J).1.2) (aX (st f h p q J).2.1) ⟨J2.nL,J2.dL⟩ ⟨J3.nL,J3.dL⟩;have c2:=cX J4.nL J4.dL J1.nL J1.dL aa (aX (st f h p q J).2.2) (aX (st f h p q J).1.1) ⟨J4.nL,J4.dL⟩ ⟨J1.nL,J1.dL⟩;have PJ:=jH (x:=f.l) J1 J2 hV;have PJ':=jH (x:=h.l) J3 J4 hV;obtain⟨s1,s2,s3,s4,_⟩:=spec J;have hsJ:¬ ∀x,bk f (st f h p q J).1 x↔bk h (st f h p q J).2 x:=fun hh=>mV fun x=>((s3 x).symm.trans (hh x)).trans (s4 x);have both:∀ {z:Rat},(st f h p q J).1.2<=(st f h p q J).1.1->(st f h p q J).2.2<=(st f h p q J).2.1->(st f h p q J).1.1=z->(st f h p q J).2.1=z->False:=fun {z} e1 e2 e3 e4=>hsJ fun x=>by have i1:=s1.le;have i2:=s2.le;rw [gW aG x,gW aG x,e3,e4]
  have hc:(dc ((st f h p q J).1.2.num*((st f h p q J).2.1.den:Int)) ((st f h p q J).2.1.num*((st f h p q J).1.2.den:Int))<=0∧cu (bk f p) (bk h q) = -1)∨(0<dc ((st f h p q J).1.2.num*((st f h p q J).2.1.den:Int)) ((st f h p q J).2.1.num*((st f h p q J).1.2.den:Int))∧dc ((st f h p q J).2.2.num*((st f h p q J).1.1.den:Int)) ((st f h p q J).1.1.num*((st f h p q J).2.2.den:Int))<=0∧cu (bk f p) (bk h q)=1):=by
   rw [<-ka s3 s4]
   by_cases h3:(st f h p q J).1.2<=(st f h p q J).2.1
   ·exact .inl ⟨je.2 h3,aaK (fun s t=>s1.up) dZ (fun t=>lo_le s2) h3 hsJ⟩
   ·exact .inr ⟨fE.2 (Rat.not_le.1 h3),je.2 (g9.resolve_left h3),aaL (fun s t=>s2.up) dZ (fun t=>lo_le s1) (g9.resolve_left h3) hsJ⟩
  have W:=Md (an:=fun j=>(st f h p q j).1.1.num) (ad:=fun j=>(st f h p q j).1.1.den) (bn:=fun j=>(st f h p q j).1.2.num) (bd:=fun j=>(st f h p q j).1.2.den) (cn:=fun j=>(st f h p q j).2.1.num) (cd:=fun j=>(st f h p q j).2.1.den) (dn:=fun j=>(st f h p q j).2.2.num) (dd:=fun j=>(st f h p q j).2.2.den) R aa (fun j VV=>by
   obtain⟨J1,J2,J12⟩:=sqj j aa;obtain⟨J3,J4,J34⟩:=aoa j aa;obtain⟨m1,m2⟩:=not_or.1 (hj j VV);have c1:=cX J2.nL J2.dL J3.nL J3.dL aa (aX (st f h p q j).1.2) (aX (st f h p q j).2.1) ⟨J2.nL,J2.dL⟩ ⟨J3.nL,J3.dL⟩;have c2:=cX J4.nL J4.dL J1.nL J1.dL aa (aX (st f h p q j).2.2) (aX (st f h p q j).1.1) ⟨J4.nL,J4.dL⟩ ⟨J1.nL,J1.dL⟩;have d1:=Ea (J2.LLs (Nat.le_refl _)) (J1.LLs (Nat.le_refl _)) aa;have d2:=Ea (J4.LLs (Nat.le_refl _)) (J3.LLs (Nat.le_refl _)) aa;have w1:=(WQ Jt uJ (spec j).2.2.2.2.1 (spec j).2.2.2.2.2.1).mono (show u+u'+1+2*(u+u')+j+1<=3*(u+u')+M+2 by omega);have w2:=(WQ LX LY (spec j).2.2.2.2.2.2.1 (spec j).2.2.2.2.2.2.2).mono (show u+u'+1+2*(u+u')+j+1<=3*(u+u')+M+2 by omega);have c3:=cX w1.nL w1.dL w2.nL w2.dL aa (aX ((st f h p q j).1.2-(st f h p q j).1.1)) (aX ((st f h p q j).2.2-(st f h p q j).2.1)) ⟨w1.nL,w1.dL⟩ ⟨w2.nL,w2.dL⟩;have H1:=BQ I aa (spec j).1 J1 J2 J12 hV;have H2:=BQ I' aa (spec j).2.1 J3 J4 J34 hV;refine⟨⟨_,c1,fE.2 (Rat.not_le.1 m1)⟩,⟨_,c2,fE.2 (Rat.not_le.1 m2)⟩,_,_,_,_,_,d1,d2,c3,?_⟩;have e1:st f h p q (j+1)=if (st f h p q j).2.2-(st f h p q j).2.1<=(st f h p q j).1.2-(st f h p q j).1.1 then(tf f (st f h p q j).1,(st f h p q j).2)else((st f h p q j).1,tf h (st f h p q j).2):=rfl
   by_cases hw:(st f h p q j).2.2-(st f h p q j).2.1<=(st f h p q j).1.2-(st f h p q j).1.1
   ·rw [if_pos hw]at e1;rw [if_pos (Int.not_lt.1 fun hh=>absurd (fF.1 hh) (Rat.not_lt.2 hw)),e1];exact⟨H1,rfl⟩
   ·rw [if_neg hw]at e1;rw [if_neg (Int.not_le.2 (fF.2 (Rat.not_le.1 hw))),e1];exact⟨H2,rfl⟩) hJ c1 c2 PJ PJ' (fun ⟨e1,e2,e3⟩=>both (of_decide_eq_true e1) (of_decide_eq_true e2) (z:=(st f h p q J).2.1) (by
   have i1:=s1.le;have i4:=of_decide_eq_true e1;have:=j8.1 e3;grind) rfl) (fun ⟨e1,e2,e3⟩=>both (of_decide_eq_true e1) (of_decide_eq_true e2) (z:=(st f h p q J).1.1) rfl (by
   have i2:=s2.le;have i4:=of_decide_eq_true e2;have:=j8.1 e3;grind)) hc
  refine OP (hn:=hi.num) (hd:=(hi.den:Int)) Nx Ny P1 P2 kM kD uQ kL (fun _=>hG) (fun _=>hD) hH (fun hh=>absurd hh wZ) (fun _=>W) ⟨_,_,_,_,rfl⟩ ⟨_,_,_,_,rfl⟩
end Go.Proofs.YtiobceocpabjdaaGreat
namespace Go.Proofs.YtiobceocpabjdaaGreat
open Go Pm
variable {n s:Nat}{a c:ZX}
theorem adG(a b:ZX):Bz [a,b]=gz a b:=by show gz (gz 0 a) b=_;rw [Ik,N9]
theorem aob(a:ZX):Bz [a]=nf a:=by show gz 0 a=_;rw [Ik]
theorem WR{C:Nat}(ha:ZX.N a<=n)(hc:ZX.N c<=n)(h:(s+n+1)*2*4^n<=C):ym C n s (nf a) (nf c):=by
 unfold ym;rw [xp,xp];have h1:∀k,k<=n->(s+n+1)*2*4^k<=C:=fun k hk=>Nat.le_trans (Nat.mul_le_mul_left _ (Nat.pow_le_pow_right ar hk)) h
 split
 ·refine Nat.le_trans (Nat.mul_le_mul_right _ ?_) (h1 _ ha);omega
 ·exact h1 _ hc
structure Eu(s n:Nat):Prop where
 hn:n<=20
 hs:1<=s
 hC:(s+n+1)*2*4^n<=4500000000
theorem Eu.two(h:Eu s n)(ba:BZ s n a)(bc:BZ s n c):aj 142 [Po a.l,Po c.l] (Po (gz a c).l):=Oe ba bc (WR ba.N bc.N h.hC) h.hn (Nat.le_refl _)
theorem Eu.qg(h:Eu s n)(ba:BZ s n a)(bc:BZ s n c):aj 203 [PI a.l,PI c.l] (PI (gz a c).l):=xq ba bc (WR ba.N bc.N h.hC) h.hn (Nat.le_refl _) h.hs
theorem aaM(s n:Nat):BZ s n 0:=⟨Nat.zero_le _,fun c hc=>by cases hc⟩
theorem Eu.aao(h:Eu s n)(ba:BZ s n a)(bc:BZ s n c):aj 194 [.sl [[Po a.l],[Po c.l]]] (Po (gz a c).l):=by
 have:=aad [a,c] av (fun i hi=>by
  match i,hi with
  | 0,_=>exact h.two (aaM s n) ba
  | 1,_ =>
   have e:Bz ([a,c].take 1)=nf a:=aob a;rw [e];have:=h.two ba.nf bc;rw [show Bz ([a,c].take (1+1))=gz (nf a) c from by rw [N9];exact adG a c];exact this)
 rw [adG]at this;exact this
end Go.Proofs.YtiobceocpabjdaaGreat
namespace Go.Proofs.YtiobceocpabjdaaGreat
open Go Pm List
open ZX hiding N W
variable {s n u S k:Nat}{f q:ZX}{p:Rat × Rat}{t:Rat}{x:List Int}{an ad bn bd:Int}
theorem zJ(I:kS s n f)(hs:s<=100000)(n8:ZX.N f<=8)(hp:p∈BO s n f):AN s n (uu s) f p∧AN s n (uu s) f (ex f p):=by
 obtain⟨a1,a2,a3,a4,a5,a6⟩:=I.ivs.mem _ hp;obtain⟨_,_,b1,b2,b3⟩:=I.root hp;have hb:=F4 I.nf (I0 I.ch.bz);have h1:Ab p.1 (2^(zs f+1)):=by obtain⟨x,y⟩:=hb;exact⟨aG,aG⟩
 have h2:Ab p.2 (2^(zs f+1)):=by obtain⟨x,y⟩:=hb;exact⟨aG,aG⟩
 have hu:uu s<=30000000:=by unfold uu;omega
 refine⟨⟨I,hs,⟨I.S, .inr ⟨a4,a6⟩⟩,a1,a2,hu,n8,fun _=>h1,fun _=>h2⟩,⟨I,hs,b1,b2,b3,hu,n8,fun _=>?_,fun _=>?_⟩⟩
 ·unfold ex
  split
  ·exact h2
  ·exact h1
 ·unfold ex;split<;>exact h2
theorem OQ(t:Rat):Nf (du t):=by
 have hd:=t.den_pos
 refine⟨ZX.ax.2 (by rw [j6];decide),?_,?_⟩
 ·rw [uB];unfold bK;simp only [foldl_cons,foldl_nil,Nat.gcd_zero_left,Int.natAbs_neg,Int.natAbs_natCast];exact t.reduced
 ·rw [uB];show 0<nth [-t.num,(t.den:Int)] 1;show(0:Int)<(t.den:Int);omega
theorem WS(t:Rat):rS (du t) (bQ (du t)):=fun d _ h2=>by rw [Wx]at h2;have hd:=t.den_pos;have:=h2.j2 (ZX.oc (show (t.den:Int)≠0 by omega));rwa [ZX.XN (show (t.den:Int)≠0 by omega)]at this
theorem BT(sb:t.num.natAbs<=30∧((t.den:Int)).natAbs<=6)(hs:5<=s)(hn:2<=n)(h1:n<=20)(h2:n+1<=2^s)(h3:(qb s n+n+6)*4^n<=4500000000)(h4:s<=5000000):kS s n (du t):=by
 have bz:BZ s n (du t):=⟨by show ZX.N (du t)<=_;rw [j6];exact hn,fun c hc=>by rw [uB]at hc;simp only [mem_cons,not_mem_nil,or_false]at hc;refine Nat.le_trans (mQ (k:=5) ?_) hs;rcases hc with rfl | rfl<;>omega⟩
 exact⟨⟨bz,h1,h2,h3⟩,aa,OQ t,F0 (OQ t) (WS t),h4⟩
theorem adH(I:kS s n f)(hs:s<=100000)(n8:ZX.N f<=8)(h0:e t f=0)(q:SQ u t)(hu:u<=30000000):AN s n u f (t,t)∧Ex f (t,t):=
 ⟨⟨I,hs,⟨I.S, .inl ⟨rfl,h0⟩⟩,q,q,hu,n8,fun h=>absurd h Rat.lt_irrefl,fun h=>absurd h Rat.lt_irrefl⟩,fun _=>rfl⟩
theorem sf(t:Rat):e t (du t)=0:=by rw [FJ];grind
structure SzC(s n S k:Nat):Prop where
 h1:(qb (qb s n) n+n+6)*4^n<=4500000000
 h2:qb s n<=1000000
 hE:(max s (S+5*k)+max n k+1)*2*4^max n k<=4500000000
 hL:(qb (S+5*k) k+k+6)*4^k<=4500000000
 hk:1<=k
 h8:k<=8
 hS:k+1<=2^(S+5*k)
 hS2:S+5*k<=100000
theorem SzC.lay(z:SzC s n S k)(bq:BZ (S+5*k) k q):p9 (S+5*k) k q:=⟨bq,by have:=z.h8;omega,z.hS,z.hL⟩
theorem SzC.s1(z:SzC s n S k):1<=S+5*k:=by have:=z.hk;omega
theorem SzC.eu(z:SzC s n S k)(hn:n<=20):Eu (max s (S+5*k)) (max n k):=⟨by have:=z.h8;omega,by have:=z.s1;omega,z.hE⟩
section
variable {s n u S k:Nat} {f:ZX} {p:Rat × Rat} (a:AN s n u f p) (z:SzC s n S k)
include a z
theorem AN.sgC(bq:BZ (S+5*k) k q):SgC (S+5*k) k f q:=by have I:=a.I;have L:=z.lay bq;have E:=z.eu I.ch.hn;refine⟨bq,z.hS2,by have:=z.h8;omega,by have:=bq.N;have:=z.h8;omega,E.aao (bq.mono aa aa) (I.ch.bz.mono aa aa),fun _=>⟨_,_,F7 I q z.h1 (by have:=z.h2;omega),z.h2⟩,fun h0=>⟨_,_,L.ch h0 z.hk⟩,fun h0=>FF (ug L) (L.ch h0 z.hk) (BE h0).1⟩
theorem AN.qgC(bq:BZ (S+5*k) k q):QgC (S+5*k) k f q:=by have I:=a.I;have L:=z.lay bq;have E:=z.eu I.ch.hn;refine⟨bq,z.hS2,by have:=z.h8;omega,by have:=bq.N;have:=z.h8;omega,E.qg (bq.mono aa aa) (I.ch.bz.mono aa aa),fun _=>⟨_,_,F7 I q z.h1 (by have:=z.h2;omega)⟩,fun h0=>⟨_,_,L.ch h0 z.hk⟩,fun h0=>uy L h0 z.hk z.s1⟩
end
theorem AN.sg0(a:AN s n u f p):OL (bk f p) 0=0:=(show Ju (bk f p) 0 0 from .inl ⟨rfl,wq (cR a.A)⟩).eq (cR a.A)
noncomputable def afU(U:Rat->Prop)(q:ZX):Int:=Gy (OL U) (ZX.N q) q
section
variable {s n u S k:Nat} {f:ZX} {p:Rat × Rat} (a:AN s n u f p) (z:SzC s n S k) {q:ZX} (bq:BZ S k q)
include a z bq
theorem AN.at:aj 185 [Po q.l,GA f p] (ae (afU (bk f p) q)):=
 aaG (OL (bk f p)) a.sg0 bq (by have:=z.h8;omega) (by have:=z.hS2;omega) fun r s' wF br=>a.sg (a.sgC z (br.mono wF (Nat.le_refl _)))
theorem AN.ahb(hx:Ex f p):aj 115 [PI q.l,QA f (aH f) p] (ae (afU (bk f p) q)):=
 Mb (OL (bk f p)) a.sg0 bq (by have:=z.h8;omega) (by have:=z.hS2;omega) fun r s' wF br=>a.qsg hx (a.qgC z (br.mono wF (Nat.le_refl _)))
end
theorem WT{c:List ZX}(hT:aj 100 [PI x] (Po x))(h1:aj 23 [R2 an ad] (T2 an ad))(h2:aj 23 [R2 bn bd] (T2 bn bd)):aj 29 [.ag (eV x c an ad bn bd)] (.ag (G9 x an ad bn bd)):=by
 simp only [eV,G9];apply bL [(0, .ag (eV x c an ad bn bd))] Tryz.func29;apply gr [1,2];apply jK hT;apply eO h1 h2
 (try (refine aM (of_decide_eq_true bX) ?_));(try simp (maxSteps:=4000000) (disch:=omega) [gw]);(repeat rw [if_pos bX]);(try simp (maxSteps:=4000000) (disch:=omega) [gw])
 exact qi [2]
theorem AN.toA(a:AN s n u f p):aj 29 [QA f (aH f) p] (GA f p):=by have hu:=a.hu;have h1:=a.q1.tor (show u<=137438953472 by omega);have h2:=a.q2.tor (show u<=137438953472 by omega);rw [bW]at h1 h2;exact WT (zF a.I.ch.bz (by have:=a.hs;omega) (by have:=a.I.ch.hn;omega)) h1 h2
theorem Eb(h:aj 192 [.ag (G9 x an ad bn bd)] (.ag (G9 x an ad bn bd))):aj 198 [.ag (G9 x an ad bn bd)] (.ag (G9 x an ad bn bd)):=by simp only [G9]at *;apply bL [(0, .ag (G9 x an ad bn bd))] Tryz.func198;apply fk [1,2] h [2];exact gK
theorem RO:aj 112 [.sl []] (.cW [WO, .bool false]):=by
 apply bL [(0, .sl [])] Tryz.func112;apply aR [0,2]
 apply cS [0,2,9]<;>intro h
 ·exact dS [2,3]
 ·simp at h
theorem BU{y:List Int}{L:List (Rat × Rat)}(hT:aj 255 [Po x] (aw (ga f) L))(hl:L.length<1000000)(hk:k<=L.length)(hb:∀i,i<k -> ∃z:Int,aj 110 [GA f (nth L i), .ag (G9 y an ad bn bd)] (ae z)∧¬0<z)(hc:k<L.length -> ∃z:Int,aj 110 [GA f (nth L k), .ag (G9 y an ad bn bd)] (ae z)∧0<z) :
  aj 206 [Po x, .ag (G9 y an ad bn bd)] (.cW [if k<L.length then GA f (nth L k)else WO, .bool (decide (k<L.length))]):=by
 simp only [G9]at *;apply bL [(0,Po x),(1, .ag (G9 y an ad bn bd))] Tryz.func206;apply fB [0,3,4];apply gT hT [3,4,9,10,11];apply W.block
 refine W.aO (fun m σ=>∃(i v3 v4:Nat),aQ σ [(3, .ptr 3 v3 0 0),(4, .ptr 4 v4 0 0),(9,aw (ga f) L),(10,ae L.length),(11,ae i)] fun rows clk=>rows 3=some ⟨v3,54,9,[G9 y an ad bn bd]⟩∧rows 4=some ⟨v4,54,9,[[.nil, .bool false, .nil, .bool false, .nil, .bool false, .nil, .bool false, .nil]]⟩∧i+m=k) k ?_ ?_
 ·exact⟨_, .refl,0,_,_,_,_,rfl,av,av,aa⟩
 rintro m _ ⟨i,v3,v4,rows,clk,rfl,bA,cN,UN⟩;simp only [G9]at bA
 apply ef [3,4,9,10,11,12]<;>intro h
 ·have hi:i<L.length:=by simp at h;omega
  apply (ft);apply fj hi [3,4,7,9,10,11]
  by_cases qu:i<k
  ·obtain⟨z,hz,lT⟩:=hb i qu;simp only [GA,ga,cons_append,nil_append]at hz;apply lF bA hz
   apply kt [3,4,7,9,10,11,18]<;>intro h
   ·exfalso;simp at h;exact lT h
   apply W.skip;refine bB fun K hK=>?_;refine hK _ ⟨m-1,_,ak _ [3,4,9,10,11],aa,i+1,_,_,_,_,rfl,by simp [bA],by simp [cN],aa⟩
  ·have atP:i=k:=(by omega);subst atP;obtain⟨z,hz,lT⟩:=hc hi;simp only [GA,ga,cons_append,nil_append]at hz;rw [if_pos hi,decide_eq_true hi];apply lF bA hz
   apply kt [3,4,7,9,10,11,18]<;>intro h
   ·apply fj cN [4,5];exact gK
   ·exfalso;simp at h;omega
 ·have hi:i=L.length:=by simp at h;omega
  have hkL:k=L.length:=aa;rw [if_neg aa,decide_eq_false aa];apply (iq);exact EU cN [4,5]
def nxo:Option (ZX × Rat × Rat)->PV
 | none => .cW [WO, .bool false]
 | some e => .cW [.ag (gg e), .bool true]
structure CpC(s n s' n':Nat):Prop where
 hE:(max s s'+max n n'+1)*2*4^max n n'<=4500000000
 h1:(qb (qb s n) n+n+6)*4^n<=4500000000
 h2:qb s n<=1000000
 h3:(qb (qb s' n') n'+n'+6)*4^n'<=4500000000
 h4:qb s' n'<=1000000
 hS:max s s'<=20000
 h20:max n n'<=20
section
variable {s n u s' n' u':Nat} {f h:ZX} {p q:Rat × Rat} (a:AN s n u f p) (b:AN s' n' u' h q) (c:CpC s n s' n')
include a b c
theorem AN.ahc:aj 110 [GA f p,GA h q] (ae (cu (bk f p) (bk h q))):=
 have E:Eu (max s s') (max n n'):=⟨c.h20,by have:=a.I.s1;omega,c.hE⟩
 a.cmp b (E.aao (a.I.ch.bz.mono aa aa) (b.I.ch.bz.mono aa aa)) fun _=>⟨_,_,F7 b.I f c.h3 (by have:=c.h4;omega),c.h4⟩
theorem AN.atQ(hu:u<=2200000)(GD:u'<=2200000):aj 48 [QA f (aH f) p,QA h (aH h) q] (ae (cu (bk f p) (bk h q))):=
 atK a.I b.I (S:=max s s') (N:=max n n') aa aa aa aa c.h20 (by have h1:=a.I.lay.hs;have h2:=b.I.lay.hs;have h3:2^s<=2^max s s':=Nat.pow_le_pow_right ar aa;have h4:2^s'<=2^max s s':=Nat.pow_le_pow_right ar aa;omega) c.hS c.hE c.h1 (by have:=c.h2;omega) a.A b.A (u:=max u u') (a.q1.mono aa) (a.q2.mono aa) (b.q1.mono aa) (b.q2.mono aa) aa
end
def nxt(f:ZX)(L:List (Rat × Rat))(k:Nat):Option (ZX × Rat × Rat):=if k<L.length then some (f,nth L k)else none
theorem cp2:CpC (qb 18 6) 6 (qb 18 6) 6:=⟨ar,ar,ar,ar,ar,ar,ar⟩
end Go.Proofs.YtiobceocpabjdaaGreat
namespace Go.Proofs.YtiobceocpabjdaaGreat
open Go Pm List
variable {i v:Nat}{X:List RE}{α:Type}{b z:Bool}{e:Int}{C:List CE}
abbrev I3:List PV:=[.nil, .nil, .nil, .bool false, .nil, .bool false, .nil, .bool false, .nil, .bool false]
section
variable (fq:Nat->ZX) (cq:Nat->List ZX) (L:Nat->List (Rat × Rat))
def kH(i:Nat)(x:RE):RE:=⟨x.t,x.z,x.q,x.w,false,emap (qa (fq i) (cq i)) (L i),true⟩
def iD(l:List RE):Nat->List RE
 | 0=>l
 | i+1=>(iD l i).set i (kH fq cq L i (nth l i))
def uD(k:Nat->Nat):Option Nat->List PV
 | none=>I3
 | some j=>qa (fq j) (cq j) (nth (L j) (k j))
def OR(k:Nat->Nat)(o:Option Nat):PV:=.ag (uD fq cq L k o)
end
section
variable {fq:Nat->ZX} {cq:Nat->List ZX} {L:Nat->List (Rat × Rat)} {l:List RE}
theorem mX:∀i,(iD fq cq L l i).length=l.length
 | 0=>rfl
 | i+1=>by rw [iD,length_set,mX i]
theorem F8:∀i j,i<=j->nth (iD fq cq L l i) j=nth l j
 | 0,_,_=>rfl
 | i+1,j,h=>by rw [iD,nth,getElem?_set_ne aa];exact F8 i j aa
theorem aaO(h:i<l.length):nth (iD fq cq L l (i+1)) i=kH fq cq L i (nth l i):=by rw [iD,nth,getElem?_set_self (by rw [mX];exact h)];rfl
theorem RQ(h:i<l.length)(hy:(nth l i).y=false)(hs:(nth l i).s=emap (qa (fq i) (cq i)) (L i))(ha:(nth l i).a=true):iD fq cq L l (i+1)=iD fq cq L l i:=by
 have e:kH fq cq L i (nth l i)=nth (iD fq cq L l i) i:=by rw [F8 i i (Nat.le_refl _),kH,<-hs,<-ha,<-hy]
 rw [iD,e];refine ext_getElem? fun j=>?_
 by_cases hj:i=j
 ·subst hj;rw [getElem?_set_self (by rw [mX];exact h)];unfold nth;rw [getElem?_eq_getElem (by rw [mX];exact h)];rfl
 ·rw [getElem?_set_ne hj]
end
theorem Mf(h:i<X.length){g:α->List PV}{s:List α}:fQ (emap dr X) i 7 [aw g s]=emap dr (X.set i ⟨(nth X i).t,(nth X i).z,(nth X i).q,(nth X i).w,false,emap g s,(nth X i).a⟩):=by simp [fQ,emap,map_set,h,gV,sc,aw,bJ h]
theorem BV(h:i<X.length):fQ (emap dr X) i 8 [.bool b]=emap dr (X.set i ⟨(nth X i).t,(nth X i).z,(nth X i).q,(nth X i).w,(nth X i).y,(nth X i).s,b⟩):=by simp [fQ,emap,map_set,h,gV,bJ h]
theorem I4[Inhabited α]{X:List α}{y:α}(h:i<X.length):nth (X.set i y) i=y:=by rw [nth,getElem?_set_self h];rfl
set_option maxHeartbeats 2000000 in
theorem I5{l:List RE}{y:List Int}{d:List ZX}{an ad bn bd:Int}{fq:Nat->ZX}{cq:Nat->List ZX}{L:Nat->List (Rat × Rat)}{k:Nat->Nat}{B:Nat->Option Nat}
  (hl:l.length<1048576)
  (hT:∀i,i<l.length->(nth l i).a=false->aj 119 [.sl (Zs (nth l i).z (nth l i).q)] (aw (qa (fq i) (cq i)) (L i)))
  (hA:∀i,i<l.length->(nth l i).a=true->(nth l i).y=false∧(nth l i).s=emap (qa (fq i) (cq i)) (L i))
  (hL:∀i,(L i).length<1000000) (hk:∀i,k i<=(L i).length)
  (hb:∀i,i<l.length -> ∀j,j<k i -> ∃z:Int,aj 48 [QA (fq i) (cq i) (nth (L i) j), .ag (eV y d an ad bn bd)] (ae z)∧¬0<z)
  (hc:∀i,i<l.length->k i<(L i).length -> ∃z:Int,aj 48 [QA (fq i) (cq i) (nth (L i) (k i)), .ag (eV y d an ad bn bd)] (ae z)∧0<z)
  (hB0:B 0=none) (hB1:∀i,i<l.length->k i=(L i).length->B (i+1)=B i) (hB2:∀i,i<l.length->k i<(L i).length->B i=none->B (i+1)=some i)
  (hB3:∀i j,i<l.length->k i<(L i).length->B i=some j -> ∃z:Int,aj 48 [QA (fq i) (cq i) (nth (L i) (k i)),QA (fq j) (cq j) (nth (L j) (k j))] (ae z)∧B (i+1)=if z<0 then some i else some j) :
  wT env.P 50 (some (0,l.length)) [.ag (eV y d an ad bn bd)] 85 9 (emap dr l) (emap dr (iD fq cq L l l.length)) (.cW [OR fq cq L k (B l.length), .bool (B l.length).isSome]):=by
 simp only [eV]at *;refine KY (E:=env) (fun _=>0) [(1, .ag (eV y d an ad bn bd))] Tryz.func50 rfl bX bX (show 2<=70 by decide) (by intro q;simp) ?_;intro id ver rows0 clk0 hr;simp only [Xy];simp only [eV];apply eQ [0,3,4] [0,3,4,6];apply fB [0,3,4,6,7];apply fj hr [0,3,4,6,7,12,13];apply W.block
 refine W.aO (fun m σ=>∃(i v3 v4 v6:Nat),aQ σ [(0, .own (id+1000000) ver 0 l.length),(3, .ptr 3 v3 0 0),(4, .ptr 4 v4 0 0),(6, .ptr 6 v6 0 0),(7, .bool (B i).isSome),(12,ae l.length),(13,ae i)] fun rows clk=>i+m=l.length ∧
  rows (id+1000000)=some ⟨ver,85,9,emap dr (iD fq cq L l i)⟩∧rows 3=some ⟨v3,49,10,[eV y d an ad bn bd]⟩∧rows 4=some ⟨v4,49,10,[I3]⟩∧rows 6=some ⟨v6,49,10,[uD fq cq L k (B i)]⟩ ∧ ∀j,j≠id->rows (j+1000000)=rows0 (j+1000000)) l.length ?_ ?_
 ·exact⟨_, .refl,0,_,_,_,_,_,by rw [hB0];rfl,aa,by simp [hr,iD],av,av,by simp [hB0,uD],fun j hj=>by simp⟩
 rintro m _ ⟨i,v3,v4,v6,rows,clk,rfl,UN,oq,bA,cN,gu,eJ⟩;simp only [eV]at bA
 apply ef [0,3,4,6,7,12,13,14]<;>intro h
 ·have hi:i<l.length:=by simp at h;omega
  have hi0:i<(iD fq cq L l i).length:=by rw [mX];exact hi
  have R7:i<(iD fq cq L l (i+1)).length:=by rw [mX];exact hi
  have g0:=F8 (fq:=fq) (cq:=cq) (L:=L) (l:=l) i i (Nat.le_refl _);have g1:=aaO (fq:=fq) (cq:=cq) (L:=L) hi;apply W.skip
  refine W.dh (fun σ=>aQ σ [(0, .own (id+1000000) ver 0 l.length),(3, .ptr 3 v3 0 0),(4, .ptr 4 v4 0 0),(6, .ptr 6 v6 0 0),(7, .bool (B (i+1)).isSome),(12,ae l.length),(13,ae i)] fun rows clk =>
   rows (id+1000000)=some ⟨ver,85,9,emap dr (iD fq cq L l (i+1))⟩∧rows 3=some ⟨v3,49,10,[eV y d an ad bn bd]⟩∧rows 4=some ⟨v4,49,10,[I3]⟩∧rows 6=some ⟨v6,49,10,[uD fq cq L k (B (i+1))]⟩ ∧ ∀j,j≠id->rows (j+1000000)=rows0 (j+1000000)) ?_ ?_
  ·apply aR [0,3,4,6,7,8,12,13]
   refine W.fR (fun σ=>aQ σ [(0, .own (id+1000000) ver 0 l.length),(3, .ptr 3 v3 0 0),(4, .ptr 4 v4 0 0),(6, .ptr 6 v6 0 0),(7, .bool (B i).isSome),(8,ae i),(12,ae l.length),(13,ae i)] fun rows clk =>
    rows (id+1000000)=some ⟨ver,85,9,emap dr (iD fq cq L l (i+1))⟩∧rows 3=some ⟨v3,49,10,[eV y d an ad bn bd]⟩∧rows 4=some ⟨v4,49,10,[I3]⟩∧rows 6=some ⟨v6,49,10,[uD fq cq L k (B i)]⟩ ∧ ∀j,j≠id->rows (j+1000000)=rows0 (j+1000000)) ?_ ?_
   ·apply W.sr;simp (disch:=omega) [gw,oq,gV,hi0,hi,g0]
    apply u7 [0,3,4,6,7,8,12,13,21]<;>intro h
    ·have ha:(nth l i).a=false:=au h;have hT:=hT i hi ha;refine W.wI fun K hK=>?_;simp (disch:=omega) [gw,oq,gV,hi0,hi,g0];have e7:=Mf hi0 (g:=qa (fq i) (cq i)) (s:=L i);rw [g0]at e7;apply cT hT;simp (disch:=omega) [gw,oq,gV,hi0,hi,g0,e7,BV,I4];refine hK _ ⟨_,ak _ [0,3,4,6,7,8,12,13],_,_,rfl,?_,by simp [bA],by simp [cN],by simp [gu],fun j hj=>by simp [hj,eJ j hj]⟩;simp [iD,kH,ha,BV,I4,hi0]
    ·have ha:(nth l i).a=true:=au h;obtain⟨hy,hs⟩:=hA i hi ha;apply W.skip;exact⟨_,ak _ [0,3,4,6,7,8,12,13],rows,clk,rfl,by rw [RQ hi hy hs ha];exact oq,bA,cN,gu,eJ⟩
   clear oq bA cN gu eJ rows clk;rintro _ ⟨rows,clk,rfl,oq,bA,cN,gu,eJ⟩;simp only [eV]at bA;apply W.sr;simp (disch:=omega) [gw,oq,gV,R7,hi,g1,kH,sc];apply c9 [0,3,4,6,7,8,12,13,41,42];apply W.block
   refine W.aO (fun m σ=>∃(j:Nat),aQ σ [(0, .own (id+1000000) ver 0 l.length),(3, .ptr 3 v3 0 0),(4, .ptr 4 v4 0 0),(6, .ptr 6 v6 0 0),(7, .bool (B i).isSome),(8,ae i),(12,ae l.length),(13,ae i),(41,ae (L i).length),(42,ae j)] fun rows clk=>j+m=k i ∧
    rows (id+1000000)=some ⟨ver,85,9,emap dr (iD fq cq L l (i+1))⟩∧rows 3=some ⟨v3,49,10,[eV y d an ad bn bd]⟩∧rows 4=some ⟨v4,49,10,[I3]⟩∧rows 6=some ⟨v6,49,10,[uD fq cq L k (B i)]⟩ ∧ ∀j,j≠id->rows (j+1000000)=rows0 (j+1000000)) (k i) ?_ ?_
   ·exact⟨_, .refl,0,_,_,rfl,aa,oq,bA,cN,gu,eJ⟩
   clear oq bA cN gu eJ rows clk;rintro m2 _ ⟨j,rows,clk,rfl,hjm,oq,bA,cN,gu,eJ⟩;simp only [eV]at bA;have hLi:=hL i;have mZ:=hk i
   apply ef [0,3,4,6,7,8,12,13,41,42,43]<;>intro h
   ·have hj:j<(L i).length:=(by simp at h;omega);apply (ft);apply mz [0,3,4,6,7,8,9,12,13,41,42];simp (disch:=omega) [gw,oq,gV,R7,hi,g1,kH,sc,hj];apply c9 [0,3,4,6,7,8,10,12,13,41,42]
    by_cases Ta:j<k i
    ·obtain⟨z,hz,lT⟩:=hb i hi j Ta;simp only [QA,qa,cons_append,nil_append]at hz;apply lF bA hz
     apply kt [0,3,4,6,7,8,12,13,41,42,56]<;>intro h
     ·exfalso;simp at h;exact lT h
     apply W.skip;refine bB fun K hK=>?_;refine hK _ ⟨m2-1,_,ak _ [0,3,4,6,7,8,12,13,41,42],aa,j+1,_,_,rfl,aa,by simp [oq],by simp [bA],by simp [cN],by simp [gu],fun j hj=>by simp [eJ j hj]⟩
    ·have atU:j=k i:=(by omega);subst atU;obtain⟨z,hz,lT⟩:=hc i hi hj;simp only [QA,qa,cons_append,nil_append]at hz;apply lF bA hz;apply kt [0,3,4,6,7,10,12,13,56]<;>intro h
     rotate_left
     ·exfalso;simp at h;omega
     apply W.seq;cases WU:B i with
     | none =>
      have Gm:=hB2 i hi hj WU;rw [WU]at gu;simp only [uD]at gu;apply fj WU [0,3,4,6,7,10,12,13,64];apply (dI)<;>intro h
      rotate_left
      ·exact absurd h av
      refine q9 gu fun K hK=>?_;refine hK _ ?_;clear hK K;apply (ey);exact⟨_,ak _ [0,3,4,6,7,12,13],_,_,by rw [Gm];rfl,by simp [oq],by simp [bA],by simp [cN],by simp [Gm,uD],fun j hj=>by simp [eJ j hj]⟩
     | some q =>
      obtain⟨z2,n6,Gm⟩:=hB3 i q hi hj WU;rw [WU]at gu;simp only [uD,qa,cons_append,nil_append]at gu;simp only [QA,qa,cons_append,nil_append]at n6;apply lG WU gu n6
      apply kt [0,3,4,6,7,10,12,13,64]<;>intro h
      ·have h:z2<0:=au h;rw [if_pos h]at Gm;refine q9 gu fun K hK=>?_;refine hK _ ?_;clear hK K;apply (ey);exact⟨_,ak _ [0,3,4,6,7,12,13],_,_,by rw [Gm];rfl,by simp [oq],by simp [bA],by simp [cN],by simp [Gm,uD],fun j hj=>by simp [eJ j hj]⟩
      ·have h:¬z2<0:=au h;rw [if_neg h]at Gm;apply W.skip;apply (ey);exact⟨_,ak _ [0,3,4,6,7,12,13],_,_,by rw [Gm];rfl,by simp [oq],by simp [bA],by simp [cN],by simp [Gm,uD,gu],fun j hj=>by simp [eJ j hj]⟩
   ·have hj:j=(L i).length:=(by simp at h;omega);have Gm:=hB1 i hi aa;apply (ey);exact⟨_,ak _ [0,3,4,6,7,12,13],rows,clk,by rw [Gm];rfl,oq,bA,cN,by rw [Gm];exact gu,eJ⟩
  clear oq bA cN gu eJ rows clk;rintro _ ⟨rows,clk,rfl,oq,bA,cN,gu,eJ⟩;refine bB fun K hK=>?_;refine hK _ ⟨m-1,_,ak _ [0,3,4,6,7,12,13],aa,i+1,_,_,_,_,_,rfl,aa,oq,bA,cN,gu,eJ⟩
 ·have hi:i=l.length:=by simp at h;omega
  subst hi;apply (ey);cases WU:B l.length with
  | none =>
   rw [WU]at gu;simp only [uD]at gu;apply oD gu cN [4,5];apply W.ret;simp [go,x7,gU,OR,uD,kW,oq,WU];exact NC fun j hj=>eJ j hj
  | some q =>
   rw [WU]at gu;simp only [uD,qa,cons_append,nil_append]at gu;apply oD gu cN [4,5];apply W.ret;simp [go,x7,gU,OR,uD,kW,oq,WU];exact NC fun j hj=>eJ j hj
structure A9 where
 y:List (List PV)
 s:Bool
 d:List (List PV)
 s':Bool
 d':List (List PV)
 u:Bool
 e:List (List PV)
 u':Bool
 e':List (List PV)
variable {l:List A9}{n t:A9}
def A9.no:A9:=⟨[],false,[],false,[],false,[],false,[]⟩
instance:Inhabited A9:=⟨A9.no⟩
def b9(x:A9):List PV:=[.sl x.y, .bool x.s, .sl x.d, .bool x.s', .sl x.d', .bool x.u, .sl x.e, .bool x.u', .sl x.e']
theorem db(x:A9):b9 x = [.sl x.y, .bool x.s, .sl x.d, .bool x.s', .sl x.d', .bool x.u, .sl x.e, .bool x.u', .sl x.e']:=rfl
theorem aaP(x:A9):(b9 x).all aF=true:=rfl
@[simp] theorem ajA:bC 9 (emap b9 l)=True:=cE fun _=>rfl
@[simp] theorem ahe{e n:Nat}:da (some ⟨v,e,n,emap b9 l⟩)=True:=ck aaP
structure WE where
 t:Tg
 p:List Int
 w:Int
 k:Bool
 o:Bool
 f:A9
variable {M:List WE}
instance:Inhabited WE:=⟨⟨default,[],0,false,false,default⟩⟩
def BW(w:WE):List PV:=[ae w.t.k,ae w.t.a,ae w.t.b,ae w.t.c,ae w.t.d,Po w.p,ae w.w, .bool w.k, .bool w.o, .sl w.f.y, .bool w.f.s, .sl w.f.d, .bool w.f.s', .sl w.f.d', .bool w.f.u, .sl w.f.e, .bool w.f.u', .sl w.f.e']
theorem fK(w:WE):BW w = [ae w.t.k,ae w.t.a,ae w.t.b,ae w.t.c,ae w.t.d,Po w.p,ae w.w, .bool w.k, .bool w.o, .sl w.f.y, .bool w.f.s, .sl w.f.d, .bool w.f.s', .sl w.f.d', .bool w.f.u, .sl w.f.e, .bool w.f.u', .sl w.f.e']:=rfl
theorem WV(w:WE):(BW w).all aF=true:=rfl
@[simp] theorem ahf{l:List WE}:bC 18 (emap BW l)=True:=cE fun _=>rfl
@[simp] theorem adI{e n:Nat}{l:List WE}:da (some ⟨v,e,n,emap BW l⟩)=True:=ck WV
def co(b:Bool)(n:A9)(z:Bool)(L:List WE)(e:Int):List PV:=[.bool b,sc (!b) n.y, .bool n.s,sc (!b) n.d, .bool n.s',sc (!b) n.d', .bool n.u,sc (!b) n.e, .bool n.u',sc (!b) n.e',sc z (emap BW L),ae e]
theorem ff(b:Bool)(n:A9)(z:Bool)(L:List WE)(e:Int):co b n z L e = [.bool b,sc (!b) n.y, .bool n.s,sc (!b) n.d, .bool n.s',sc (!b) n.d', .bool n.u,sc (!b) n.e, .bool n.u',sc (!b) n.e',sc z (emap BW L),ae e]:=rfl
theorem fZ(b:Bool)(n:A9)(z:Bool)(L:List WE)(e:Int):∀p∈co b n z L e,aF p=true:=all_eq_true.1 (by simp only [ff,all_cons,Bb,all_nil];rfl)
attribute [simp] acq
theorem uE{L:List WE}:jq 44 [] 95 12 (co b n z L e) (co b n z L e) (ae e):=by refine iz (E:=env) (fun _=>0) [] Tryz.func44 rfl bX bX (show 1<=7 by decide) (by intro q;simp) ?_;intro id ver rows clk dY;apply aR [0];simp only [ff]at dY |-;apply fj dY [2];apply W.ret;simp [go,dY]
theorem oR{L:List WE}(hL:aj 112 [.sl [b9 n]] (.cW [.ag (b9 n), .bool true])):jq 49 [] 95 12 (co true n z L e) (co true n z L e) (.ag (b9 n)):=by
 refine iz (E:=env) (fun _=>0) [] Tryz.func49 rfl bX bX (show 1<=23 by decide) (by intro q;simp) ?_;intro id ver rows clk dY;simp only [db]at hL |-;simp only [ff,Bool.not_true,UG]at dY |-;apply fB [0,2];apply fj dY [0,2,9]
 apply (dI)<;>intro h
 ·simp at h
 apply W.skip;apply lF dY hL;apply u6 dY [2,3];apply aR [2];apply W.ret;simp [go,dY]
def yS(R:WE->Bool × A9)(w:WE):WE:=if w.k=true then w else⟨w.t,w.p,w.w,true,(R w).1,(R w).2⟩
theorem I6{m:A9}{L:List WE}{R:WE->Bool × A9}(hl:L.length<1000000)(hz:z=true->L = [])
  (hN:jq 49 [] 95 12 (co b n z L e) (co b n z L e) (.ag (b9 m)))
  (hR:∀w∈L,w.k=false->aj 206 [Po w.p, .ag (b9 m)] (.cW [.ag (b9 (R w).2), .bool (R w).1])) :
  jq 120 [] 95 12 (co b n z L e) (co b n false (L.map (yS R)) e) (.cW []):=by
 refine iz (E:=env) (fun _=>0) [] Tryz.func120 rfl bX bX (show 1<=40 by decide) (by intro q;simp) ?_;intro id ver rows0 clk0 dY;have El:=fZ b n z L e;simp only [db]at hN hR;apply mz [0,2];apply dB dY;refine oZ hN rfl rfl El El dY ?_;apply bM [0,2,3];refine W.nil 2 2 179 18 av ar fun K hK=>?_;refine W.lw [0,2,3] hK ?_;clear hK K;simp;apply W.seq
 refine W.dx (fun σ=>∃(s:PV) (v2 v3:Nat),aQ σ [(0, .ptr (id+1000000) ver 0 0),(2, .own 2 v2 0 0),(3, .ptr 3 v3 0 0),(11,s),(12,ae L.length),(13,ae 0)] fun rows clk=>(0<L.length->s=aw BW L)∧rows 2=some ⟨v2,179,18,[]⟩∧rows (id+1000000)=some ⟨ver,95,12,[co b n z L e]⟩∧(∀j,j≠id->rows (j+1000000)=rows0 (j+1000000))∧rows 3=some ⟨v3,54,9,[b9 m]⟩) (fun K hK=>?_) ?_
 ·cases z
  ·simp (disch:=omega) [gw,dY,ff];exact hK _ _ (ak _ [0,2,3,11,12,13]) ⟨_,_,_,_,_,rfl,fun _=>rfl,av,by simp [ff],by intro j hj;simp [hj],by simp [db]⟩
  ·obtain rfl:=hz rfl;simp (disch:=omega) [gw,dY,ff];exact hK _ _ (ak _ [0,2,3,11,12,13]) ⟨_,_,_,_,_,rfl,av,av,by simp [ff],by intro j hj;simp [hj],by simp [db]⟩
 clear dY;rintro _ ⟨s,v2,v3,rows,clk,rfl,hs,bE,dY,eJ,bA⟩;apply W.block
 refine W.aO (fun k σ=>∃(i v2 v3:Nat),aQ σ [(0, .ptr (id+1000000) ver 0 0),(2, .own 2 v2 0 i),(3, .ptr 3 v3 0 0),(11,s),(12,ae L.length),(13,ae i)] fun rows clk=>i+k=L.length∧rows 2=some ⟨v2,179,18,emap BW ((L.map (yS R)).take i)⟩∧rows (id+1000000)=some ⟨ver,95,12,[co b n z L e]⟩∧(∀j,j≠id->rows (j+1000000)=rows0 (j+1000000))∧rows 3=some ⟨v3,54,9,[b9 m]⟩) L.length ?_ ?_
 ·exact⟨_,ak _ [0,2,3,11,12,13],0,_,_,_,_,rfl,aa,by simp [bE,emap],dY,eJ,bA⟩
 clear bE dY eJ bA rows clk v2 v3;rintro k _ ⟨i,v2,v3,rows,clk,rfl,qu,bE,dY,eJ,bA⟩
 apply ef [0,2,3,11,12,13,14]<;>intro h
 ·have hi:i<L.length:=by simp at h;omega
  obtain rfl:=hs aa;have km:=hR _ (bo hi);have fI:(L.map (yS R)).take (i+1)=(L.map (yS R)).take i ++ [yS R (nth L i)]:=by rw [take_succ_eq_append_getElem (au hi),bJ hi];simp
  have hlen:((L.map (yS R)).take i).length=i:=by simp;omega
  generalize Cf:(L.map (yS R)).take (i+1)=T',(L.map (yS R)).take i=T at *;generalize hw:nth L i=w at *;obtain⟨y',tz⟩:∃y',yS R w=y':=⟨_,rfl⟩
  rw [tz]at fI;apply (ft);apply W.sr;simp (disch:=omega) [gw,hi,hw,fK];apply c9 [0,2,3,5,11,12,13]
  refine W.fR (fun σ=>∃(v5:Nat),aQ σ [(0, .ptr (id+1000000) ver 0 0),(2, .own 2 v2 0 i),(3, .ptr 3 v3 0 0),(5, .ptr 5 v5 0 0),(11,aw BW L),(12,ae L.length),(13,ae i)] fun rows clk=>rows 2=some ⟨v2,179,18,emap BW T⟩∧rows 5=some ⟨v5,179,18,[BW y']⟩∧rows (id+1000000)=some ⟨ver,95,12,[co b n z L e]⟩∧(∀j,j≠id->rows (j+1000000)=rows0 (j+1000000))∧rows 3=some ⟨v3,54,9,[b9 m]⟩) ?_ ?_
  ·apply fi [0,2,3,5,11,12,13,19]<;>intro h
   ·have hk:w.k=false:=au h;have CC:=km hk;rw [yS,if_neg (by simp [hk])]at tz;generalize R w=r at *;apply W.sr;simp (disch:=omega) [gw,bA,db];apply cT CC;apply bM [0,2,3,5,11,12,13];refine bB fun K hK=>?_;exact hK _ ⟨_,ak _ [0,2,3,5,11,12,13],_,_,_,rfl,by simp [bE],by simp [<-tz,fK],by simp [dY],by intro j hj;simp [hj,eJ],by simp [bA,db]⟩
   ·have hk:w.k=true:=au h;rw [yS,if_pos hk]at tz;subst tz;apply W.skip;exact⟨_,ak _ [0,2,3,5,11,12,13],_,_,_,rfl,by simp [bE],by simp [fK],by simp [dY],by intro j hj;simp [hj,eJ],by simp [bA]⟩
  clear bE dY eJ bA rows clk;rintro _ ⟨v5,rows,clk,rfl,bE,dj,dY,eJ,bA⟩;rw [fK]at dj;refine W.wI fun K hK=>?_;apply qk dj bE hlen;refine W.lw [0,2,3,11,12,13] hK ?_;clear hK K;simp;refine bB fun K hK=>?_;refine hK _ ⟨k-1,_,ak _ [0,2,3,11,12,13],aa,i+1,_,_,_,_,rfl,aa,by rw [Cf,fI];simp [bE,emap,hlen,fK],by simp [dY],by intro j hj;simp [hj,eJ],by simp [bA]⟩
 ·have hi:i=L.length:=by simp at h;omega
  subst hi;have hT:(L.map (yS R)).take L.length=L.map (yS R):=take_of_length_le av;rw [hT]at bE;apply (ey);refine W.freeze 2 (by simp [bE]) fun K hK=>?_;simp [bE];refine hK _ ?_;clear hK K;simp only [ff]at dY |-;refine q9 dY fun K hK=>?_;refine hK _ ?_;simp [go,dY];rw [hT];exact⟨rfl,fun j hj=>by simp [hj,eJ]⟩
theorem RS[Inhabited α]{l:List α}(h:i<l.length):l.take (i+1)=l.take i ++ [nth l i]:=by rw [take_succ_eq_append_getElem h,bJ h]
def wv(l:List WE):List A9:=(l.filter WE.o).map WE.f
theorem OS(l:List WE):(wv l).length<=l.length:=by simp only [wv,length_map];exact length_filter_le _ _
theorem I7{r:A9}{ok:Bool}{L:List WE}(hl:M.length<1000000)
  (hk:jq 120 [] 95 12 (co b n z L e) (co b n false M e) (.cW []))
  (hL:aj 112 [aw b9 (wv M)] (.cW [.ag (b9 r), .bool ok])) :
  jq 51 [] 95 12 (co b n z L e) (co b n false M e) (.cW [.ag (b9 r), .bool ok]):=by
 refine iz (E:=env) (fun _=>0) [] Tryz.func51 rfl bX bX (show 1<=30 by decide) (by intro q;simp) ?_;intro id ver rows0 clk0 dY;have El:=fZ b n z L e;have aaQ:=fZ b n false M e;simp only [db r]at hL |-;apply mz [0,2];apply dB dY;refine oZ hk rfl rfl El aaQ (by simp [dY]) ?_;apply bM [0,2];apply aR [0,2,4];refine W.nil 4 4 54 9 av ar fun K hK=>?_;refine W.lw [0,2,4] hK ?_;clear hK K;simp;apply W.seq
 refine W.dx (fun σ=>∃(v2 v4:Nat),aQ σ [(2, .ptr 2 v2 0 0),(4, .own 4 v4 0 0),(12,aw BW M),(13,ae M.length),(14,ae 0)] fun rows clk=>rows 4=some ⟨v4,54,9,[]⟩∧rows 2=some ⟨v2,54,9,[[.nil, .bool false, .nil, .bool false, .nil, .bool false, .nil, .bool false, .nil]]⟩∧rows (id+1000000)=some ⟨ver,95,12,[co b n false M e]⟩∧(∀j,j≠id->rows (j+1000000)=rows0 (j+1000000))) (fun K hK=>?_) ?_
 ·simp (disch:=omega) [gw,ff];exact hK _ _ (ak _ [2,4,12,13,14]) ⟨_,_,_,_,rfl,av,av,by simp [ff],by intro j hj;simp [hj]⟩
 clear dY;rintro _ ⟨v2,v4,rows,clk,rfl,cN,bE,dY,eJ⟩;apply W.block
 refine W.aO (fun k σ=>∃(i v2 v4:Nat),aQ σ [(2, .ptr 2 v2 0 0),(4, .own 4 v4 0 (wv (M.take i)).length),(12,aw BW M),(13,ae M.length),(14,ae i)] fun rows clk=>i+k=M.length∧rows 4=some ⟨v4,54,9,emap b9 (wv (M.take i))⟩∧rows 2=some ⟨v2,54,9,[[.nil, .bool false, .nil, .bool false, .nil, .bool false, .nil, .bool false, .nil]]⟩∧rows (id+1000000)=some ⟨ver,95,12,[co b n false M e]⟩∧(∀j,j≠id->rows (j+1000000)=rows0 (j+1000000))) M.length ?_ ?_
 ·exact⟨_,ak _ [2,4,12,13,14],0,v2,v4,rows,clk,by simp [wv],aa,by simp [cN,emap,wv],bE,dY,eJ⟩
 clear bE dY eJ cN rows clk v2 v4;rintro k _ ⟨i,v2,v4,rows,clk,rfl,qu,cN,bE,dY,eJ⟩
 apply ef [2,4,12,13,14,15]<;>intro h
 ·have hi:i<M.length:=by simp at h;omega
  have fI:wv (M.take (i+1))=wv (M.take i)++if (nth M i).o=true then [(nth M i).f]else []:=by rw [RS hi];simp only [wv,filter_append,map_append,filter_cons,filter_nil];split<;>rfl
  have hlen:(wv (M.take i)).length<=i:=Nat.le_trans (OS _) (by simp;omega);generalize Cf:wv (M.take (i+1))=T',wv (M.take i)=T at *;generalize hw:nth M i=w at *;apply W.skip
  refine W.dh (fun σ=>∃(v4:Nat),aQ σ [(2, .ptr 2 v2 0 0),(4, .own 4 v4 0 T'.length),(12,aw BW M),(13,ae M.length),(14,ae i)] fun rows clk=>rows 4=some ⟨v4,54,9,emap b9 T'⟩∧rows 2=some ⟨v2,54,9,[[.nil, .bool false, .nil, .bool false, .nil, .bool false, .nil, .bool false, .nil]]⟩∧rows (id+1000000)=some ⟨ver,95,12,[co b n false M e]⟩∧(∀j,j≠id->rows (j+1000000)=rows0 (j+1000000))) ?_ ?_
  ·apply W.sr;simp (disch:=omega) [gw,hi,hw,fK];apply c9 [2,4,6,12,13,14]
   apply fi [2,4,6,12,13,14,19]<;>intro h
   ·have ho:w.o=true:=au h;rw [if_pos ho]at fI;refine q9 cN fun K hK=>?_;exact hK _ ⟨_,ak _ [2,4,12,13,14],_,_,_,by rw [show T'.length=T.length+1 by rw [fI];simp];rfl,by rw [fI];simp [emap,db],by simp [bE],by simp [dY],by intro j hj;simp [hj,eJ]⟩
   ·have ho:w.o=false:=au h;rw [if_neg (by simp [ho]),append_nil]at fI;subst fI;apply W.skip;exact⟨_,ak _ [2,4,12,13,14],_,_,_,rfl,by simp [cN],by simp [bE],by simp [dY],by intro j hj;simp [hj,eJ]⟩
  clear cN bE dY eJ rows clk v4;rintro _ ⟨v4,rows,clk,rfl,cN,bE,dY,eJ⟩;refine bB fun K hK=>?_;refine hK _ ⟨k-1,_,ak _ [2,4,12,13,14],aa,i+1,_,_,_,_,by rw [Cf];rfl,aa,by rw [Cf];exact cN,bE,dY,eJ⟩
 ·have hi:i=M.length:=by simp at h;omega
  subst hi;rw [take_length]at cN |-;apply (ey);refine W.freeze 4 (by simp [cN]) fun K hK=>?_;simp [cN];refine hK _ ?_;clear hK K;apply lF bE hL;apply u6 bE [2,3];apply W.ret;simp [go,dY];exact fun j hj=>by simp [hj,eJ]
def WE.c(w:WE):CE:=⟨w.t,false,w.p,w.w⟩
theorem RU{L:List WE}{M:List CE}(hl:L.length<1000000)(hz:z=true->L = [])
  (hS:aj 35 [aw fx (L.map WE.c)] (aw fx M)) :
  jq 47 [] 95 12 (co b n z L e) (co b n z L e) (aw fx M):=by
 refine iz (E:=env) (fun _=>0) [] Tryz.func47 rfl bX bX (show 1<=23 by decide) (by intro q;simp) ?_;intro id ver rows0 clk0 dY;apply eQ [0] [0,3];refine W.nil 3 3 82 7 av ar fun K hK=>?_;refine W.lw [0,3] hK ?_;clear hK K;simp;apply W.seq
 refine W.dx (fun σ=>∃(s:PV) (v3:Nat),aQ σ [(3, .own 3 v3 0 0),(9,s),(10,ae L.length),(11,ae 0)] fun rows clk=>(0<L.length->s=aw BW L)∧rows 3=some ⟨v3,82,7,[]⟩∧rows (id+1000000)=some ⟨ver,95,12,[co b n z L e]⟩∧(∀j,j≠id->rows (j+1000000)=rows0 (j+1000000))) (fun K hK=>?_) ?_
 ·cases z
  ·simp (disch:=omega) [gw,dY,ff];exact hK _ _ (ak _ [3,9,10,11]) ⟨_,_,_,_,rfl,fun _=>rfl,av,by simp [dY,ff],by intro j hj;simp [hj]⟩
  ·obtain rfl:=hz rfl;simp (disch:=omega) [gw,dY,ff];exact hK _ _ (ak _ [3,9,10,11]) ⟨_,_,_,_,rfl,av,av,by simp [dY,ff],by intro j hj;simp [hj]⟩
 clear dY;rintro _ ⟨s,v3,rows,clk,rfl,hs,bA,dY,eJ⟩;apply W.block
 refine W.aO (fun k σ=>∃(i v3:Nat),aQ σ [(3, .own 3 v3 0 i),(9,s),(10,ae L.length),(11,ae i)] fun rows clk=>i+k=L.length∧rows 3=some ⟨v3,82,7,emap fx ((L.map WE.c).take i)⟩∧rows (id+1000000)=some ⟨ver,95,12,[co b n z L e]⟩∧(∀j,j≠id->rows (j+1000000)=rows0 (j+1000000))) L.length ?_ ?_
 ·exact⟨_,ak _ [3,9,10,11],0,v3,rows,clk,rfl,aa,by simp [bA,emap],dY,eJ⟩
 clear bA dY eJ rows clk v3;rintro k _ ⟨i,v3,rows,clk,rfl,qu,bA,dY,eJ⟩
 apply ef [3,9,10,11,12]<;>intro h
 ·have hi:i<L.length:=by simp at h;omega
  obtain rfl:=hs aa;have fI:(L.map WE.c).take (i+1)=(L.map WE.c).take i ++ [(nth L i).c]:=by rw [take_succ_eq_append_getElem (au hi),bJ hi];simp
  have hlen:((L.map WE.c).take i).length=i:=by simp;omega
  generalize Cf:(L.map WE.c).take (i+1)=T',(L.map WE.c).take i=T at *;generalize hw:nth L i=w at *;apply (ft);apply W.sr;simp (disch:=omega) [gw,hi,hw,fK];apply c9 [3,5,9,10,11];refine W.wI fun K hK=>?_;apply fN bA hlen;refine W.lw [3,9,10,11] hK ?_;clear hK K;simp;refine bB fun K hK=>?_;refine hK _ ⟨k-1,_,ak _ [3,9,10,11],aa,i+1,_,_,_,rfl,aa,by rw [Cf,fI];simp [emap,aw,hlen,fW,WE.c],by simp [dY],by intro j hj;simp [hj,eJ]⟩
 ·have hi:i=L.length:=by simp at h;omega
  subst hi;have hT:(L.map WE.c).take L.length=L.map WE.c:=take_of_length_le av;rw [hT]at bA;apply (ey);refine W.freeze 3 (by simp [bA]) fun K hK=>?_;simp [bA];rw [hT];refine hK _ ?_;clear hK K;apply gT hS [2];apply W.ret;simp [go,dY];exact fun j hj=>by simp [hj,eJ]
def WE.new(s:CE):WE:=⟨s.t,s.p,s.w,false,false,A9.no⟩
def wek(z:Bool)(w:WE):List PV:=[ae w.t.k,ae w.t.a,ae w.t.b,ae w.t.c,ae w.t.d,Po w.p,ae w.w, .bool w.k, .bool w.o,sc z w.f.y, .bool w.f.s,sc z w.f.d, .bool w.f.s',sc z w.f.d', .bool w.f.u,sc z w.f.e, .bool w.f.u',sc z w.f.e']
theorem F9(z:Bool)(w:WE):wek z w = [ae w.t.k,ae w.t.a,ae w.t.b,ae w.t.c,ae w.t.d,Po w.p,ae w.w, .bool w.k, .bool w.o,sc z w.f.y, .bool w.f.s,sc z w.f.d, .bool w.f.s',sc z w.f.d', .bool w.f.u,sc z w.f.e, .bool w.f.u',sc z w.f.e']:=rfl
theorem Ga{later:Bool}{L:List WE}{S:List CE}{G:CE->WE}(hl:S.length<1000000)(hSz:∀s∈S,s.z=false)
  (hS:aj 35 [aw fx C] (aw fx S)) (hL:aj 112 [.sl [b9 t]] (.cW [.ag (b9 t), .bool true]))
  (hF:later=false -> ∀s∈S,G s=WE.new s)
  (hT:later=true -> ∀s∈S,∃y:Bool,(y=true->(G s).f=A9.no)∧jq 191 [.ag (fx s), .ag (b9 t)] 95 12 (co b n z L e) (co b n z L e) (.ag (wek y (G s)))) :
  jq 109 [.ag (b9 t), .bool later,aw fx C] 95 12 (co b n z L e) (co true t false (S.map G) e) (.cW []):=by
 simp only [db]at hL hT |-;refine iz (E:=env) (fun _=>0) [(1, .ag [.sl t.y, .bool t.s, .sl t.d, .bool t.s', .sl t.d', .bool t.u, .sl t.e, .bool t.u', .sl t.e']),(2, .bool later),(3,aw fx C)] Tryz.func109 rfl bX bX (show 4<=47 by decide) (by intro q;simp) ?_;intro id ver rows0 clk0 dY;have El:=fZ b n z L e;apply eQ [0,2,3,5] [0,2,3,5,8];refine W.nil 8 8 179 18 av ar fun K hK=>?_;refine W.lw [0,2,3,5,8] hK ?_;clear hK K;simp;apply W.seq
 refine W.dx (fun σ=>∃(v5 v8:Nat),aQ σ [(0, .ptr (id+1000000) ver 0 0),(2, .bool later),(5, .ptr 5 v5 0 0),(8, .own 8 v8 0 0),(13,aw fx S),(14,ae S.length),(15,ae 0)] fun rows clk=>rows 8=some ⟨v8,179,18,[]⟩∧rows 5=some ⟨v5,54,9,[[.sl t.y, .bool t.s, .sl t.d, .bool t.s', .sl t.d', .bool t.u, .sl t.e, .bool t.u', .sl t.e']]⟩∧rows (id+1000000)=some ⟨ver,95,12,[co b n z L e]⟩∧(∀j,j≠id->rows (j+1000000)=rows0 (j+1000000))) (fun K hK=>?_) ?_
 ·apply iI dY hS;apply (cp);exact hK _ _ (ak _ [0,2,5,8,13,14,15]) ⟨_,_,_,_,rfl,av,av,by simp [dY],by intro j hj;simp⟩
 clear dY;rintro _ ⟨v5,v8,rows,clk,rfl,mI,dj,dY,eJ⟩;apply W.block
 refine W.aO (fun k σ=>∃(i v5 v8:Nat),aQ σ [(0, .ptr (id+1000000) ver 0 0),(2, .bool later),(5, .ptr 5 v5 0 0),(8, .own 8 v8 0 i),(13,aw fx S),(14,ae S.length),(15,ae i)] fun rows clk=>i+k=S.length∧rows 8=some ⟨v8,179,18,emap BW ((S.map G).take i)⟩∧rows 5=some ⟨v5,54,9,[[.sl t.y, .bool t.s, .sl t.d, .bool t.s', .sl t.d', .bool t.u, .sl t.e, .bool t.u', .sl t.e']]⟩∧rows (id+1000000)=some ⟨ver,95,12,[co b n z L e]⟩∧(∀j,j≠id->rows (j+1000000)=rows0 (j+1000000))) S.length ?_ ?_
 ·exact⟨_,ak _ [0,2,5,8,13,14,15],0,v5,v8,rows,clk,rfl,aa,by simp [mI,emap],dj,dY,eJ⟩
 clear mI dj dY eJ rows clk v5 v8;rintro k _ ⟨i,v5,v8,rows,clk,rfl,qu,mI,dj,dY,eJ⟩
 apply ef [0,2,5,8,13,14,15,16]<;>intro h
 ·have hi:i<S.length:=by simp at h;omega
  have hF':=fun h=>hF h _ (bo hi);have Cf:=fun h=>hT h _ (bo hi);have hz':=hSz _ (bo hi);have fI:(S.map G).take (i+1)=(S.map G).take i ++ [G (nth S i)]:=by rw [take_succ_eq_append_getElem (au hi),bJ hi];simp
  have hlen:((S.map G).take i).length=i:=by simp;omega
  generalize hU':(S.map G).take (i+1)=U',(S.map G).take i=U at *;generalize hw:nth S i=w at *;generalize G w=g at *;rw [fW,hz',UG]at Cf;apply (ft);apply W.sr;simp (disch:=omega) [gw,hi,hw,fW,hz',UG];apply c9 [0,2,5,8,10,13,14,15];apply aR [0,2,5,8,10,11,13,14,15]
  refine W.fR (fun σ=>∃(v11:Nat) (y:Bool),aQ σ [(0, .ptr (id+1000000) ver 0 0),(2, .bool later),(5, .ptr 5 v5 0 0),(8, .own 8 v8 0 i),(11, .ptr 11 v11 0 0),(13,aw fx S),(14,ae S.length),(15,ae i)] fun rows clk=>rows 11=some ⟨v11,179,18,[[ae g.t.k,ae g.t.a,ae g.t.b,ae g.t.c,ae g.t.d,Po g.p,ae g.w, .bool g.k, .bool g.o,sc y g.f.y, .bool g.f.s,sc y g.f.d, .bool g.f.s',sc y g.f.d', .bool g.f.u,sc y g.f.e, .bool g.f.u',sc y g.f.e']]⟩∧(y=true->g.f=A9.no)∧rows 8=some ⟨v8,179,18,emap BW U⟩∧rows 5=some ⟨v5,54,9,[[.sl t.y, .bool t.s, .sl t.d, .bool t.s', .sl t.d', .bool t.u, .sl t.e, .bool t.u', .sl t.e']]⟩∧rows (id+1000000)=some ⟨ver,95,12,[co b n z L e]⟩∧(∀j,j≠id->rows (j+1000000)=rows0 (j+1000000))) ?_ ?_
  ·apply fi [0,2,5,8,10,11,13,14,15,21]<;>intro h
   ·subst h;obtain⟨y,hy,hk⟩:=Cf rfl;rw [F9]at hk;refine q9 dj fun K hK=>?_;refine oZ hk rfl av El El (by simp [dY]) ?_;apply (cp);exact hK _ ⟨_,ak _ [0,2,5,8,11,13,14,15],_,y,_,_,rfl,by simp [F9],hy,by simp [mI],by simp [dj],av,by intro j hj;simp [hj,eJ]⟩
   ·subst h;obtain rfl:=hF' rfl;apply W.skip;exact⟨_,ak _ [0,2,5,8,11,13,14,15],_,true,_,_,rfl,by simp [WE.new,A9.no];rfl,by simp [WE.new],by simp [mI],by simp [dj],by simp [dY],by intro j hj;simp [hj,eJ]⟩
  clear mI dj dY eJ rows clk;rintro _ ⟨v11,y,rows,clk,rfl,agC,hgf,mI,dj,dY,eJ⟩;refine W.wI fun K hK=>?_;apply qk agC mI hlen;refine W.lw [0,2,5,8,13,14,15] hK ?_;clear hK K;simp;refine bB fun K hK=>?_;refine hK _ ⟨k-1,_,ak _ [0,2,5,8,13,14,15],aa,i+1,_,_,_,_,rfl,aa,?_,by simp [dj],by simp [dY],by intro j hj;simp [hj,eJ]⟩;rw [hU',fI]
  cases y
  ·simp [emap,aw,hlen,fK,Zs]
  ·have:=hgf rfl;simp [emap,aw,hlen,fK,this,A9.no,Zs]
 ·have hi:i=S.length:=by simp at h;omega
  subst hi;have hTT:(S.map G).take S.length=S.map G:=take_of_length_le av;rw [hTT]at mI;apply (ey);refine W.freeze 8 (by simp [mI]) fun K hK=>?_;simp [mI];rw [hTT];refine hK _ ?_;clear hK K;simp only [ff]at dY |-;apply lF dj hL;apply u6 dY [0,8];refine q9 dY fun K hK=>?_;refine hK _ ?_;simp [go,dY];exact⟨rfl,fun j hj=>by simp [hj,eJ]⟩
theorem Ec{L:List WE}
  (hY:jq 109 [.ag (b9 t), .bool false,aw fx C] 95 12 (co false n z L e) (co true t false M e) (.cW [])) :
  jq 42 [.ag (b9 t),aw fx C] 95 12 (co false n z L e) (co true t false M e) (.cW []):=by
 simp only [db]at hY |-;refine iz (E:=env) (fun _=>0) [(1, .ag [.sl t.y, .bool t.s, .sl t.d, .bool t.s', .sl t.d', .bool t.u, .sl t.e, .bool t.u', .sl t.e']),(2,aw fx C)] Tryz.func42 rfl bX bX (show 3<=23 by decide) (by intro q;simp) ?_;intro id ver rows0 clk0 dY;have El:=fZ false n z L e;have aaQ:=fZ true t false M e;simp only [ff]at dY hY El aaQ |-;apply aR [0,2,4];refine W.Dd fun K hK=>?_;apply dB dY;refine lC hY rfl rfl El aaQ (by simp [dY]) ?_;apply (cp);refine aM (by refine⟨?_,?_,?_⟩<;>kernel_rfl) ?_;apply (cp);refine hK _ ?_;simp [go,dY];exact fun j hj=>by simp [hj]
theorem WW{β:Type}{c:Prop}[Decidable c]{f g:α->β}{x:α}:(if c then f else g) x=if c then f x else g x:=by split<;>rfl
structure CS where
 b:Bool
 n:A9
 z:Bool
 L:List WE
 e:Int
def CS.c(s:CS):List PV:=co s.b s.n s.z s.L s.e
theorem CS.cB(s:CS):∀p∈s.c,aF p=true:=fZ _ _ _ _ _
end Go.Proofs.YtiobceocpabjdaaGreat
namespace Go.Proofs.YtiobceocpabjdaaGreat
open Go Pm List
open ZX hiding N W
variable {k n:Nat}{p:ZX}{r:Rat}{T:List Rat}
section
variable {U V:Rat->Prop} (hU:∀s t,U s->s<=t->U t) (hV:∀s t,V s->s<=t->V t)
include hU hV
theorem Gb:0<cu U V ↔ ∃t,V t∧¬U t:=by
 unfold cu
 split
 ·rename_i h;obtain⟨t1,h1,h2⟩:=h;refine⟨fun h=>absurd h ar,fun⟨t2,h3,h4⟩=>?_⟩
  by_cases h5:t1<=t2
  ·exact absurd (hU _ _ h1 h5) h4
  ·exact absurd (hV _ _ h3 aG) h2
 ·split
  ·rename_i h;exact⟨fun _=>h,fun _=>by decide⟩
  ·rename_i h;exact⟨fun h1=>absurd h1 ar,fun h1=>absurd h1 h⟩
omit hU hV in
theorem WX:cu U V<0 ↔ ∃t,U t∧¬V t:=by
 unfold cu
 split
 ·rename_i h;exact⟨fun _=>h,fun _=>by decide⟩
 ·rename_i h;refine⟨fun h1=>?_,fun h1=>absurd h1 h⟩;split at h1<;>exact absurd h1 ar
theorem aaR:cu U V<0↔0<cu V U:=by rw [WX,Gb hV hU]
end
structure Idx(f:ZX)(L:List (Rat × Rat))(U:Rat->Prop)(k:Nat):Prop where
 le:k<=L.length
 lt:∀i,i<k->¬0<cu (bk f (nth L i)) U
 gt:k<L.length->0<cu (bk f (nth L k)) U
theorem Idx.mono{f:ZX}{L:List (Rat × Rat)}{U U':Rat->Prop}{k':Nat}(hf:∀i,i<L.length -> ∀s t,bk f (nth L i) s->s<=t->bk f (nth L i) t)(hU:∀s t,U s->s<=t->U t)(hU':∀s t,U' s->s<=t->U' t)(h:Idx f L U k)(h':Idx f L U' k')(hs:∀t,U' t->U t):k<=k':=Nat.not_lt.1 fun hk=>by
 have hl:k'<L.length:=by have:=h.le;omega
 obtain⟨t,h1,h2⟩:=(Gb (hf _ hl) hU').1 (h'.gt hl);exact h.lt k' hk ((Gb (hf _ hl) hU).2 ⟨t,hs t h1,h2⟩)
theorem aaS{n d:Int}(hM:aj 90 [T2 n d, .sl []] (T2 n d))(hg:aj 148 [I n] (I (-n))):aj 113 [T2 n d] (.ag (G9 [-n,d] n d n d)):=by simp only [G9];apply bL [(0,T2 n d)] Tryz.func113;apply fk [1,2] hM [1,2];apply W.sd;apply eO hg hM;apply bM [2];apply W.ret;simp [go];rw [show Po [-n,d] = .sl [ie (-n),ie d]from rfl];simp [ie]
def unx:PV->PV
 | .iE l => .sl l
 | p=>p
theorem aaT{c:Cx}{p:PV}{v:Value}(h:az c p v):az c (unx p) v:=by
 cases p with
 | iE l=>exact M6 h
 | _=>exact h
theorem yD.iE{P:Program}{g:FuncId}{args:List PV}{e:TypeId}{core fD:List PV}{r:PV}(h:yD P g (args.map unx) e n core fD r):yD P g args e n core fD r:=by
 intro id ver rows clk h1 h2 h3;obtain⟨h4,h5⟩:=h id ver rows clk h1 h2 h3;refine⟨h4,fun w0 S0 c vs G hI hr eB fh hG=>h5 w0 S0 c vs G hI hr eB ?_ hG⟩;refine aN.bT (au fh.length) fun i a b ha hb=>?_;cases i with
 | zero =>
  simp at ha;subst ha;obtain⟨b',gC,qO⟩:=fh.get (k:=0) (a:=.ptr id ver 0 0) av;rw [hb]at gC;cases gC;exact qO
 | succ i =>
  simp only [getElem?_cons_succ,getElem?_map,Option.map_eq_some_iff]at ha;obtain⟨a',CQ,rfl⟩:=ha;obtain⟨b',gC,qO⟩:=fh.get (k:=i+1) (a:=a') (au CQ);rw [hb]at gC;cases gC;exact aaT qO
theorem Ed:([.bool false, .nil, .bool false, .nil, .bool false, .nil, .bool false, .nil, .bool false, .nil, .nil,ae 0]:List PV)=co false A9.no true [] 0:=rfl
theorem Gc{n1 d1 n2 d2 an ad bn bd:Int}{x y:List Int}{C1 C2:List ZX}{t r:A9}{L:List WE}
  (h1:aj 12 [ae 0,ae 1] (R2 n1 d1)) (h2:aj 41 [R2 n1 d1] (AP x C1 n1 d1)) (h3:aj 29 [AP x C1 n1 d1] (.ag (b9 t)))
  (h4:aj 97 [.sl [[ae (-1)],[ae 1]]] (PI [-1,1])) (h5:aj 100 [PI [-1,1]] (Po [-1,1]))
  (hB:jq 42 [.ag (b9 t),aw fx [⟨⟨0,0,0,0,0⟩,false,[-1,1], -1⟩]] 95 12 (co false A9.no true [] 0) (co true t false L 0) (.cW []))
  {M:List WE} (hX:jq 51 [] 95 12 (co true t false L 0) (co true t false M 0) (.cW [.ag (b9 r), .bool true]))
  (h6:aj 20 [.ag (b9 r)] (.ag (eV y C2 an ad bn bd))) (h7:aj 12 [ae 1,ae 1] (R2 n2 d2)) (h8:aj 19 [.ag (eV y C2 an ad bn bd),R2 n2 d2] (ae 0)) :
  aj 45 [] (.bool true):=by
 have Pk:=fZ false A9.no true [] 0;have Zv:=fZ true t false L 0;have Gq:=fZ true t false M 0;have hE:jq 44 [] 95 12 (co true t false M 0) (co true t false M 0) (ae 0):=uE;have hq:aw fx [⟨⟨0,0,0,0,0⟩,false,[-1,1], -1⟩] = .sl [[ae 0,ae 0,ae 0,ae 0,ae 0,Po [-1,1],ae (-1)]]:=rfl;rw [hq]at hB;simp only [db,eV,A9.no]at *;apply bL [] Tryz.func45;apply eQ [] [1];apply kh h1 h2;apply eO h3 h4;apply my h5;refine aM (fun p hp=>by rcases hp with (h|h)|h<;>subst h<;>simp) ?_;apply (cp);refine oZ (yD.iE (args:=[.ag [.sl t.y, .bool t.s, .sl t.d, .bool t.s', .sl t.d', .bool t.u, .sl t.e, .bool t.u', .sl t.e'], .iE [[ae 0,ae 0,ae 0,ae 0,ae 0,Po [-1,1],ae (-1)]]]) hB) rfl rfl Pk Zv (by simp [Ed,A9.no]) ?_;apply bM [1];apply (oC);refine oZ hX rfl rfl Zv Gq av ?_;apply bM [1,2,3];apply kh h6 h7;apply my h8;refine oZ hE rfl rfl Gq Gq av ?_;exact eK [0]
theorem RV{q:Rat}(h:q.num.natAbs<=n):Ab q (n:Rat):=by
 have hd:(1:Rat)<=((q.den:Int):Rat):=ep (by have:=q.den_pos;omega)
 have hq:((q.num:Int):Rat)=q*((q.den:Int):Rat):=by
  have h1:q=(q.num:Rat)/((q.den:Int):Rat):=by rw [<-Rat.divInt_eq_div,Rat.num_divInt_den]
  have h2:=Rat.div_mul_cancel (a:=(q.num:Rat)) (b:=((q.den:Int):Rat)) aG;rw [<-h1]at h2;exact h2.symm
 have h3:((q.num:Int):Rat)<=(((n:Int):Int):Rat):=Rat.intCast_le_intCast.2 aa;have h4:(((-(n:Int)):Int):Rat)<=((q.num:Int):Rat):=Rat.intCast_le_intCast.2 aa;rw [Rat.intCast_neg]at h4;have h5:(((n:Int):Int):Rat)=(n:Rat):=Rat.intCast_natCast n;rw [h5]at h3 h4;have h6:(0:Rat)<=(n:Rat):=Rat.natCast_nonneg;generalize ((q.num:Int):Rat)=u,((q.den:Int):Rat)=v,(n:Rat)=m at *;have h7:=Rat.mul_le_mul_of_nonneg_left hd h6
 constructor
 ·refine Rat.not_lt.1 fun h=>?_;have:=Rat.mul_le_mul_of_nonneg_left hd (show 0 <= -m-q by grind);grind
 ·refine Rat.not_lt.1 fun h=>?_;have:=Rat.mul_le_mul_of_nonneg_left hd (show 0<=q-m by grind);grind
theorem zK(t:Rat):du t≠0:=(IF t).ne
theorem Bg.du{a b r:Rat}(fm:a<=b)(h:r<a∨b<r):Bg a b (Go.Proofs.YtiobceocpabjdaaGreat.du r):=by
 have e1:=fun s=>FJ s r;unfold Go.Proofs.YtiobceocpabjdaaGreat.du at e1 |-;have hd:(0:Rat)<((r.den:Int):Rat):=Rat.intCast_pos.2 (by have:=r.den_pos;omega);simp only [DT]at e1;refine Bg.lin ?_;rw [e1 a,e1 b]
 rcases h with h | h
 ·exact .inl ⟨Rat.mul_pos hd aG,Rat.mul_pos hd aG⟩
 ·right;have:=Rat.mul_pos hd (show 0<r-a by grind);have:=Rat.mul_pos hd (show 0<r-b by grind);exact⟨aG,aG⟩
structure Kz(T:List Rat)(p:ZX):Prop where
 xY:T.Pairwise (· < ·)
 ne:p≠0
 hN:ZX.N p=T.length+1
 hn:n1 p<=24^T.length
 rt:∀r∈T,e r p=0
 bg:∀a b,a<=b->(∀r∈T,r<a∨b<r)->Bg a b p
 rng:∀r∈T,r.num.natAbs<=20∧r.den<=3
 mu1:∀q,od q->mu q p<=1
theorem Kz.nil:Kz [] (of [1]) where
 xY:=.nil
 ne:=ZX.ax.2 ar
 hN:=by decide
 hn:=by decide
 rt:=fun _ h=>by cases h
 bg:=fun _ _ _ _=>Bg.K (c:=1) ar
 rng:=fun _ h=>by cases h
 mu1:=fun q hq=>by show mu q (1:ZX)<=1;rw [Ft hq];decide
theorem RW(h:r.num.natAbs<=20∧r.den<=3):n1 (du r)<=24:=by unfold n1;rw [uB];simp only [l1,map_cons,map_nil,sum_cons,sum_nil];omega
theorem aaU{q:ZX}(hq:od q)(r:Rat):mu q (du r)<=1 ∧ ∀p:ZX,p≠0->e r p≠0->1<=mu q (du r)->mu q p=0:=by
 have l0:=zK r
 refine⟨Nat.not_lt.1 fun h=>?_,fun p hp he h1=>?_⟩
 ·have h1:=(ja hq l0).1 (show 2<=mu q (du r)by omega);have h2:=h1.j2 l0;have h3:=Vm hq 2;rw [j6]at h2;omega
 ·refine Nat.eq_zero_of_not_pos fun h2=>he ?_;have e1:q^1=q:=by rw [pow_succ',dX];grind
  have d1:=(ja hq l0).1 h1;have d2:=(ja hq hp).1 h2;rw [e1]at d1 d2;have hN:ZX.N q=2:=by have:=d1.j2 l0;rw [j6]at this;have:=hq.Z5;omega
  obtain⟨c,hc,s,hs⟩:=d1;have s0:s≠0:=fun h=>by rw [h]at hs;exact ZX.kB (ZX.oc hc) l0 (by rw [hs];grind)
  have hNs:ZX.N s=1:=by have:=congrArg ZX.N hs;rw [ZX.i9 (ZX.oc hc) l0,ZX.i9 s0 hq.ne,hN,j6,ZX.XN hc]at this;omega
  have h3:e r s≠0:=fun h=>by have:=(FK.1 h).j2 s0;rw [j6]at this;omega
  have h4:e r q=0:=by
   have:=congrArg (e r) hs;rw [iC,iC,sf,Rat.mul_zero]at this
   rcases Rat.mul_eq_zero.1 this.symm with h | h
   ·exact absurd h h3
   ·exact h
  obtain⟨c',uP,u,hu⟩:=d2;have:=congrArg (e r) hu;rw [iC,iC,h4,Rat.mul_zero,wN]at this
  rcases Rat.mul_eq_zero.1 this with h | h
  ·exact absurd (by exact_mod_cast h) uP
  ·exact h
theorem Kz.ins(K:Kz T p)(hr:r.num.natAbs<=20∧r.den<=3)(h1:∀x∈T.take k,x<r)(h2:∀x∈T.drop k,r<x):Kz (T.take k++r::T.drop k) (p*du r):=by
 have lA:∀x,x∈T.take k++r::T.drop k↔x=r∨x∈T:=fun x=>by
  simp only [mem_append,mem_cons]
  constructor
  ·rintro(h | h | h)
   ·exact .inr (mem_of_mem_take h)
   ·exact .inl h
   ·exact .inr (mem_of_mem_drop h)
  ·rintro(h | h)
   ·exact .inr (.inl h)
   ·rw [<-take_append_drop k T]at h
    rcases mem_append.1 h with h | h
    ·exact .inl h
    ·exact .inr (.inr h)
 have hlen:(T.take k++r::T.drop k).length=T.length+1:=by have:=congrArg List.length (take_append_drop k T);simp only [length_append,length_cons]at this |-;omega
 refine⟨?_,ZX.kB K.ne (zK r),?_,?_,fun x hx=>?_,fun a b fm h=>?_,fun x hx=>?_,fun q hq=>?_⟩
 ·have hs:=K.xY;rw [<-take_append_drop k T,pairwise_append]at hs;obtain⟨s1,s2,s3⟩:=hs;rw [pairwise_append];refine⟨s1,pairwise_cons.2 ⟨h2,s2⟩,fun a ha b hb=>?_⟩
  rcases mem_cons.1 hb with rfl | hb
  ·exact h1 a ha
  ·exact s3 a ha b hb
 ·rw [ZX.i9 K.ne (zK r),K.hN,j6,hlen];omega
 ·rw [hlen,Nat.pow_succ];exact Nat.le_trans (FY _ _) (Nat.mul_le_mul K.hn (RW hr))
 ·rw [iC]
  rcases(lA x).1 hx with rfl | hx
  ·rw [FJ];grind
  ·rw [K.rt x hx,Rat.zero_mul]
 ·exact(K.bg a b fm fun x hx=>h x ((lA x).2 (.inr hx))).mul (Bg.du fm (h r ((lA r).2 (.inl rfl))))
 ·rcases(lA x).1 hx with rfl | hx
  ·exact hr
  ·exact K.rng x hx
 ·obtain⟨m1,m2⟩:=aaU hq r;rw [rM hq K.ne (zK r)];have h3:=K.mu1 q hq
  have he:e r p≠0:=fun h0=>by
   obtain⟨η,h4,h5⟩:=K.bg r r Rat.le_refl fun x hx=>by
    rw [<-take_append_drop k T]at hx
    rcases mem_append.1 hx with hx | hx
    ·exact .inl (h1 x hx)
    ·exact .inr (h2 x hx)
   have:=h5 r Rat.le_refl Rat.le_refl;rw [h0]at this;unfold jM at this;rcases this with h | h<;>grind
  rcases Nat.eq_zero_or_pos (mu q (du r))with h4 | h4
  ·omega
  ·have:=m2 p K.ne he h4;omega
theorem Kz.oz(K:Kz T p):Go.Proofs.YtiobceocpabjdaaGreat.oz (nf p)=Go.Proofs.YtiobceocpabjdaaGreat.sq p:=by refine Ww (Vv (iM K.ne)) (j5 K.ne).1 fun q hq=>?_;rw [adb (iM K.ne) hq,N7 hq K.ne,(j5 K.ne).2 q hq];have:=K.mu1 q hq;omega
theorem p24(h:k<=4):24^k<=331776:=by have:=Nat.pow_le_pow_right (show 0<24 by decide) h;exact Nat.le_trans this ar
theorem Kz.lay(K:Kz T p)(h:T.length<=4):p9 19 5 p:=by have h1:=K.hn;have h2:=p24 h;have h3:=K.hN;have e19:(2:Nat)^19=524288:=ar;exact⟨BZ.adq aa aa,ar,ar,ar⟩
theorem Kz.Mg(K:Kz T p)(h:T.length<=4):kS (qb 19 5) 5 (sq p):=ag1 (K.lay h) K.ne ar ar ar
theorem Kz.count{T:List Rat}{p:ZX}(K:Kz T p)(h:T.length<=4){a b:Rat}(fm:a<b):vt (aH (sq p)) a=vt (aH (sq p)) b+(T.countP fun r=>decide (a<r∧r<=b)):=by
 have h0:=K.ne;have hG:=(K.lay h).FI h0 ar;refine hG.count (K.xY.imp fun h=>Rat.ne_of_lt h) (fun r hr=>(Oy h0).2 (K.rt r hr)) (fun a b fm hr=>?_) fm;have key:∀a,a<b->(∀r∈T,r<a∨b<r)->vt (aH (sq p)) a=vt (aH (sq p)) b:=fun a fm h=>hG.bg ((K.bg a b (Rat.le_of_lt fm) h).dv (pD h0)) fm
 by_cases h1:e a (sq p)=0
 ·obtain⟨a',q1,q2,q3⟩:=hG.Rd fm h1;rw [q3]
  rcases Rat.le_iff_lt_or_eq.1 q2 with h2 | rfl
  ·exact key a' h2 fun r qO=>by
    by_cases h3:a<r
    ·exact .inr (hr r qO h3)
    ·left;grind
  ·rfl
 ·refine key a fm fun r qO=>?_
  by_cases h3:a<r
  ·exact .inr (hr r qO h3)
  ·left;refine Rat.lt_of_le_of_ne (Rat.not_lt.1 h3) fun h4=>h1 ?_;rw [<-h4];exact(Oy h0).2 (K.rt r qO)
theorem Kz.range(K:Kz T p):∀r∈T, -20<=r∧r<=20:=fun r hr=>RV (K.rng r hr).1
def Ge(T:List Rat)(t:Rat):Nat:=T.countP fun r=>decide (r<=t)
theorem ahg{t:Rat}:Ge T t<=T.length:=countP_le_length
theorem Kz.level(K:Kz T p)(h:T.length<=4):(∀t,vt (aH (sq p)) t+Ge T t=vt (aH (sq p)) (-gp (sq p).l))∧vt (aH (sq p)) (gp (sq p).l)+T.length=vt (aH (sq p)) (-gp (sq p).l):=by
 have I:=K.Mg h;have hr:=K.range;have c1:∀t:Rat, -100<t->vt (aH (sq p)) (-100)=vt (aH (sq p)) t+Ge T t:=fun t ht=>by rw [K.count h ht];congr 1;refine countP_congr fun r qO=>?_;have:=hr r qO;simp only [decide_eq_true_eq];exact⟨fun q=>q.2,fun q=>⟨aG,q⟩⟩
 have c2:=c1 100 ar;have e2:Ge T 100=T.length:=by unfold Ge;rw [countP_eq_length];intro r qO;have:=hr r qO;simp only [decide_eq_true_eq];grind
 have c3:=K.count h I.IP;have c4:(T.countP fun r=>decide (-gp (sq p).l<r∧r<=gp (sq p).l))<=T.length:=countP_le_length;have t1:=I.adE (-100);have t2:=I.an9 100;have e3:vt (aH (sq p)) (-100)=vt (aH (sq p)) (-gp (sq p).l):=aa;refine⟨fun t=>?_,aa⟩
 by_cases ht : -100<t
 ·rw [<-e3,c1 t ht]
 ·have a1:=I.S.bI (show t <= -100 by grind);have a2:=I.adE t;have a3:Ge T t=0:=by unfold Ge;rw [countP_eq_zero];intro r qO;have:=hr r qO;simp only [decide_eq_true_eq];grind
  omega
theorem zL{t:Rat}:∀ {T:List Rat} {i:Nat},T.Pairwise (· < ·)->i<T.length->(i+1<=Ge T t↔nth T i<=t)
 | [],i,_,h=>by simp at h
 | r::T,i,hs,hi=>by
  obtain⟨s1,s2⟩:=pairwise_cons.1 hs;unfold Ge;rw [countP_cons]
  by_cases hr:r<=t
  ·rw [if_pos (au hr)];cases i with
   | zero=>exact⟨fun _=>hr,fun _=>by omega⟩
   | succ i =>
    have:=zL (t:=t) s2 (show i<T.length by simpa using hi);unfold Ge at this;rw [show nth (r::T) (i+1)=nth T i by simp [nth],<-this];omega
  ·rw [if_neg (au hr)];have h0:(T.countP fun r=>decide (r<=t))=0:=(by rw [countP_eq_zero];intro x hx;have:=s1 x hx;simp only [decide_eq_true_eq];grind);rw [h0];refine⟨fun h=>by omega,fun h=>absurd h ?_⟩;have hm:=bo hi
   rcases mem_cons.1 hm with hm | hm
   ·rw [hm];exact hr
   ·have:=s1 _ hm;grind
theorem Kz.len{T:List Rat}{p:ZX}(K:Kz T p)(h:T.length<=4):(BO (qb 19 5) 5 (sq p)).length=T.length:=by have h1:=(K.Mg h).ivs.len;have h2:=(K.level h).2;omega
theorem Kz.WY(K:Kz T p)(h:T.length<=4){i:Nat}(hi:i<T.length)(t:Rat):bk (sq p) (nth ((BO (qb 19 5) 5 (sq p)).map (ex (sq p))) i) t↔nth T i<=t:=by have I:=K.Mg h;rw [I.Me i (by rw [K.len h];exact hi),<-zL K.xY hi];have:=(K.level h).1 t;omega
end Go.Proofs.YtiobceocpabjdaaGreat
namespace Go.Proofs.YtiobceocpabjdaaGreat
open Go Pm List
variable {c:A9->A9->Int}{x:A9}{l:List A9}
def CN(c:A9->A9->Int)(x:A9)(l:List A9):A9:=l.foldl (fun b y=>if c y b<0 then y else b) x
theorem zM{c:A9->A9->Int}:∀ {l:List A9} {x:A9},CN c x l∈x::l
 | [],x=>by simp [CN]
 | y::l,x=>by
  have h:=zM (c:=c) (l:=l) (x:=if c y x<0 then y else x);have e:CN c x (y::l)=CN c (if c y x<0 then y else x) l:=rfl;rw [e]
  rcases mem_cons.1 h with h | h
  ·rw [h];split<;>simp
  ·exact mem_cons_of_mem _ (mem_cons_of_mem _ h)
theorem WZ{i:Nat}(h:i<l.length):CN c x (l.take (i+1))=if c (nth l i) (CN c x (l.take i))<0 then nth l i else CN c x (l.take i):=by unfold CN;rw [bJ h,take_succ_eq_append_getElem h,foldl_append];rfl
theorem uF(hl:l.length<1000000)
  (hc:∀y∈l,∀b∈x::l,aj 110 [.ag (b9 y), .ag (b9 b)] (ae (c y b))) (hf:aj 198 [.ag (b9 (CN c x l))] (.ag (b9 (CN c x l)))) :
  aj 112 [aw b9 (x::l)] (.cW [.ag (b9 (CN c x l)), .bool true]):=by
 simp only [db]at hc hf |-;apply bL [(0,aw b9 (x::l))] Tryz.func112;apply aR [0,2]
 apply cS [0,2,9]<;>intro h
 ·simp at h;omega
 apply W.skip;apply W.sr;simp (disch:=omega) [gw,db];apply c9 [0,2,4];apply dU [2,4,15,16,17]
 refine W.aO (fun k σ=>∃(i v2 v4:Nat),aQ σ [(2, .ptr 2 v2 0 0),(4, .ptr 4 v4 0 0),(15,aw b9 l),(16,ae l.length),(17,ae i)] fun rows clk=>rows 2=some ⟨v2,54,9,[[.nil, .bool false, .nil, .bool false, .nil, .bool false, .nil, .bool false, .nil]]⟩∧rows 4=some ⟨v4,54,9,[b9 (CN c x (l.take i))]⟩∧i+k=l.length) l.length ?_ ?_
 ·exact⟨_,ak _ [2,4,15,16,17],0,_,_,_,_,rfl,av,by simp [CN,db,show nth (x::l) 0=x from rfl],aa⟩
 rintro k _ ⟨i,v2,v4,rows,clk,rfl,bE,cN,qu⟩
 apply ef [2,4,15,16,17,18]<;>intro h
 ·have hi:i<l.length:=by simp at h;omega
  have hm:CN c x (l.take i)∈x::l:=by
   rcases mem_cons.1 (zM (c:=c) (x:=x) (l:=l.take i))with h | h
   ·rw [h];simp
   ·exact mem_cons_of_mem _ (mem_of_mem_take h)
  have hC:=hc _ (bo hi) _ hm;have fI:=WZ (c:=c) (x:=x) hi;generalize hw':CN c x (l.take (i+1))=w',CN c x (l.take i)=w at *;generalize hy:nth l i=y at *;generalize c y w=z at *;rw [db]at cN;apply W.skip
  refine W.dh (fun σ=>∃(v2 v4:Nat),aQ σ [(2, .ptr 2 v2 0 0),(4, .ptr 4 v4 0 0),(15,aw b9 l),(16,ae l.length),(17,ae i)] fun rows clk=>rows 2=some ⟨v2,54,9,[[.nil, .bool false, .nil, .bool false, .nil, .bool false, .nil, .bool false, .nil]]⟩∧rows 4=some ⟨v4,54,9,[b9 w']⟩) ?_ ?_
  ·apply W.sr;simp (disch:=omega) [gw,hi,hy,db];apply c9 [2,4,6,15,16,17];apply lF cN hC
   apply kt [2,4,6,15,16,17,24]<;>intro h
   ·have hz:z<0:=au h;rw [if_pos hz]at fI;subst fI;refine q9 cN fun K hK=>?_;exact hK _ ⟨_,ak _ [2,4,15,16,17],_,_,_,_,rfl,by simp [bE],by simp [db]⟩
   ·have hz:¬z<0:=au h;rw [if_neg hz]at fI;subst fI;apply W.skip;exact⟨_,ak _ [2,4,15,16,17],_,_,_,_,rfl,by simp [bE],by simp [cN,db]⟩
  rintro _ ⟨v2,v4,rows,clk,rfl,bE,cN⟩;refine bB fun K hK=>?_;refine hK _ ⟨k-1,_,ak _ [2,4,15,16,17],aa,i+1,_,_,_,_,rfl,bE,by rw [hw'];exact cN,aa⟩
 ·have hi:i=l.length:=by simp at h;omega
  subst hi;rw [take_length,db]at cN;apply (iq);apply iI cN hf;exact EU bE [2,3]
end Go.Proofs.YtiobceocpabjdaaGreat
namespace Go.Proofs.YtiobceocpabjdaaGreat
open Go Pm
open ZX hiding N W
variable {x t y:Rat}{U:Rat->Prop}
def gX(f:ZX)(p:Rat × Rat):A9:=⟨emap ie f.l,decide (p.1.num<0),emap u32 (aI LL p.1.num.natAbs),decide ((p.1.den:Int)<0),emap u32 (aI LL (p.1.den:Int).natAbs),decide (p.2.num<0),emap u32 (aI LL p.2.num.natAbs),decide ((p.2.den:Int)<0),emap u32 (aI LL (p.2.den:Int).natAbs)⟩
def CO(x t:Rat):Int:=if x<t then -1 else if t<x then 1 else 0
theorem zN:0<CO x t↔t<x:=by
 unfold CO
 split
 ·exact⟨fun h=>absurd h ar,fun h=>by grind⟩
 ·split
  ·rename_i h;exact⟨fun _=>h,fun _=>by decide⟩
  ·rename_i h;exact⟨fun h1=>absurd h1 ar,fun h1=>absurd h1 h⟩
theorem OT:CO x t<0↔x<t:=by
 unfold CO
 split
 ·rename_i h;exact⟨fun _=>h,fun _=>by decide⟩
 ·rename_i h
  split
  ·exact⟨fun h1=>absurd h1 ar,fun h1=>absurd h1 h⟩
  ·exact⟨fun h1=>absurd h1 ar,fun h1=>absurd h1 h⟩
theorem W1:CO x t=0↔x=t:=by
 unfold CO
 split
 ·exact⟨fun h=>absurd h ar,fun h=>by grind⟩
 ·split
  ·exact⟨fun h=>absurd h ar,fun h=>by grind⟩
  ·exact⟨fun _=>by grind,fun _=>rfl⟩
theorem I8(x:Rat):CO x x=0:=W1.2 rfl
theorem W2(h:∀t,U t↔x<=t)(t:Rat):cr U t=CO x t:=by
 unfold CO
 split
 ·rename_i h1;exact(xA (fun s t hs g9=>(h t).2 (Rat.le_trans ((h s).1 hs) g9))).2 ⟨x,h1,(h x).2 Rat.le_refl⟩
 ·split
  ·rename_i h1;exact mT.2 fun h2=>by have:=(h t).1 h2;grind
  ·have:x=t:=(by grind);subst this;exact wj.2 ⟨(h x).2 Rat.le_refl,fun s hs hu=>by have:=(h s).1 hu;grind⟩
theorem ahh{V:Rat->Prop}(h:∀t,U t↔x<=t)(h':∀t,V t↔y<=t):cu U V=CO x y:=by
 unfold cu CO;have e1:(∃t,U t∧¬V t)↔x<y:=⟨fun⟨t,h1,h2⟩=>by rw [h]at h1;rw [h']at h2;grind,fun pR=>⟨x,(h x).2 Rat.le_refl,fun h2=>by have:=(h' x).1 h2;grind⟩⟩
 have e2:(∃t,V t∧¬U t)↔y<x:=⟨fun⟨t,h1,h2⟩=>by rw [h']at h1;rw [h]at h2;grind,fun pR=>⟨y,(h' y).2 Rat.le_refl,fun h2=>by have:=(h y).1 h2;grind⟩⟩
 by_cases h1:x<y
 ·rw [if_pos h1,if_pos (e1.2 h1)]
 ·rw [if_neg h1,if_neg (fun hh=>h1 (e1.1 hh))]
  by_cases h2:y<x
  ·rw [if_pos h2,if_pos (e2.2 h2)]
  ·rw [if_neg h2,if_neg (fun hh=>h2 (e2.1 hh))]
structure wx(s n u:Nat)(f:ZX)(p:Rat × Rat)(x:Rat):Prop where
 a:AN s n u f p
 v:∀t,bk f p t↔x<=t
namespace wx
section
variable {s n u:Nat} {f:ZX} {p:Rat × Rat} {x:Rat} (A:wx s n u f p x)
include A
theorem fr:aj 198 [.ag (b9 (gX f p))] (.ag (b9 (gX f p))):=Eb (r9 A.a.I.ch.bz (by have:=A.a.hs;omega) (by have:=A.a.I.lay.hn;omega) A.a.q1 A.a.q2 (by have:=A.a.hu;omega))
theorem least:aj 112 [.sl [b9 (gX f p)]] (.cW [.ag (b9 (gX f p)), .bool true]):=uF (c:=fun _ _=>0) (l:=[]) ar (fun y h=>by cases h) A.fr
theorem fa:aj 20 [.ag (b9 (gX f p))] (QA f (aH f) (ex f p)):=A.a.I.ads A.a.q1 A.a.q2 (by have:=A.a.hu;omega)
theorem pk:SQ u (ex f p).1∧SQ u (ex f p).2:=by
 unfold ex
 split
 ·exact⟨A.a.q2,A.a.q2⟩
 ·exact⟨A.a.q1,A.a.q2⟩
theorem qcr{v:Nat}(qt:SQ v t)(huv:u<=v)(hv:v<=1000000000):aj 19 [QA f (aH f) (ex f p),RR t] (ae (CO x t)):=by have h:=mc A.a.A;have:=A.a.I.om h.1 (A.pk.1.mono huv) (A.pk.2.mono huv) qt hv;rwa [W2 (fun t=>(h.2 t).trans (A.v t))]at this
theorem cmp{s' n' u':Nat}{g:ZX}{q:Rat × Rat}(B:wx s' n' u' g q y)(c:CpC s n s' n'):aj 110 [.ag (b9 (gX f p)), .ag (b9 (gX g q))] (ae (CO x y)):=by have:=A.a.ahc B.a c;rwa [ahh A.v B.v]at this
end
theorem pt{s n:Nat}(q:SQ 5 t)(sb:t.num.natAbs<=30∧((t.den:Int)).natAbs<=6)(hs:5<=s)(hn:2<=n)(h1:n<=20)(h2:n+1<=2^s)(h3:(qb s n+n+6)*4^n<=4500000000)(h4:s<=100000):wx s n 7000 (du t) (t,t) t:=
 ⟨(adH (BT sb hs hn h1 h2 h3 aa) h4 (by rw [j6];decide) (sf t) (q.mono ar) ar).1,fun _=>gW rfl _⟩
end wx
theorem ahj{u:Nat}(q:SQ u t)(hu:u<=1000000000):aj 113 [RT t] (.ag (b9 (gX (du t) (t,t)))):=by have h:=aaS (n:=t.num) (d:=t.den) (sV q hu) (Uh (Nat.lt_of_le_of_lt q.nL aa));rw [<-uB]at h;exact h
def nA(f:ZX)(L:List (Rat × Rat))(k:Nat):A9:=if k<L.length then gX f (nth L k)else A9.no
theorem ahk(f:ZX)(L:List (Rat × Rat))(k:Nat):nxo (nxt f L k) = .cW [.ag (b9 (nA f L k)), .bool (decide (k<L.length))]:=by
 unfold nxt nA
 by_cases h:k<L.length
 ·rw [if_pos h,if_pos h,decide_eq_true h];rfl
 ·rw [if_neg h,if_neg h,decide_eq_false h];rfl
end Go.Proofs.YtiobceocpabjdaaGreat
namespace Go.Proofs.YtiobceocpabjdaaGreat
open Go Pm List
open ZX hiding N W
variable {T:List Rat}{p:ZX}{t:Rat}
def S19:Nat:=qb 19 5
theorem ahl:S19=235:=by decide
noncomputable abbrev wy(p:ZX):List (Rat × Rat):=BO S19 5 (sq p)
theorem Kz.root(K:Kz T p)(h:T.length<=4){i:Nat}(hi:i<T.length):wx S19 5 (uu S19) (sq p) (nth (wy p) i) (nth T i):=by have I:=K.Mg h;have hl:=K.len h;have hc:=fun t=>K.WY h hi t;change kS S19 5 (sq p)at I;change (wy p).length=_ at hl;change ∀t,bk (sq p) (nth ((wy p).map (ex (sq p))) i) t↔_ at hc;have hm:nth (wy p) i∈wy p:=bo aa;have e:=ahl;have N5:=I.ch.bz.N;refine⟨(zJ I aa (by have:ZX.N (sq p)<=5:=N5;omega) hm).1,fun t=>?_⟩;have hx:=(mc (zJ I aa (by have:ZX.N (sq p)<=5:=N5;omega) hm).1.A).2 t;rw [<-hc t,mW aa];exact hx.symm
theorem Kz.turns(K:Kz T p)(h:T.length<=4):aj 255 [Po p.l] (aw (ga (sq p)) (wy p)):=by have:=IY (K.lay h) K.ne ar ar ar;rw [K.oz]at this;exact this
theorem Kz.next(K:Kz T p)(h:T.length<=4){s' n' u':Nat}{g:ZX}{q:Rat × Rat}{x:Rat}(B:wx s' n' u' g q x)(c:CpC S19 5 s' n') :
  aj 206 [Po p.l, .ag (b9 (gX g q))] (.cW [.ag (b9 (nA (sq p) (wy p) (Ge T x))), .bool (decide (Ge T x<T.length))]):=by
 have hl:(wy p).length=T.length:=K.len h;have hle:=ahg (T:=T) (t:=x);have hT:=K.turns h
 have:=BU (y:=g.l) (an:=q.1.num) (ad:=q.1.den) (bn:=q.2.num) (bd:=q.2.den) (k:=Ge T x) hT aa aa (fun i hi=>⟨CO (nth T i) x,(K.root h (i:=i) aa).cmp B c,fun hh=>by
  have h2:=(zL K.xY (show i<T.length by omega)).1 (show i+1<=Ge T x by omega);have:=zN.1 hh;grind⟩) (fun hk=>⟨CO (nth T (Ge T x)) x,(K.root h (i:=Ge T x) aa).cmp B c,zN.2 (by
  refine Rat.not_le.1 fun h2=>?_;have:=(zL K.xY (show Ge T x<T.length by omega)).2 h2;omega)⟩)
 rw [<-hl,<-ahk];unfold nxt
 by_cases hk:Ge T x<(wy p).length
 ·rw [if_pos hk,decide_eq_true hk]at this;rw [if_pos hk];exact this
 ·rw [if_neg hk,decide_eq_false hk]at this;rw [if_neg hk];exact this
theorem OU(sb:t.num.natAbs<=30∧((t.den:Int)).natAbs<=6):aj 41 [R2 t.num t.den] (AP (du t).l (aH (du t)) t.num t.den):=by have It:=BT (s:=59) (n:=5) sb ar ar ar ar ar ar;have hR:=CL (n:=t.num) (d:=t.den) aa aa (by have:=t.den_pos;omega) (uB t);rw [It.sq]at hR;rw [uB];exact hR
theorem ptA(q:SQ 5 t)(sb:t.num.natAbs<=30∧((t.den:Int)).natAbs<=6):wx 59 5 7000 (du t) (t,t) t:=wx.pt q sb ar ar ar ar ar ar
theorem adK(q:SQ 5 t)(sb:t.num.natAbs<=30∧((t.den:Int)).natAbs<=6):aj 29 [AP (du t).l (aH (du t)) t.num t.den] (.ag (b9 (gX (du t) (t,t)))):=(ptA q sb).a.toA
theorem at0:CpC S19 5 59 5:=⟨ar,ar,ar,ar,ar,ar,ar⟩
theorem k1:Kz [1] (du 1):=by
 have h:=Kz.nil.ins (r:=1) ar (k:=0) (fun _ h=>by cases h) (fun _ h=>by cases h);have e1:of [1]*du 1=du 1:=by show(1:ZX)*du 1=du 1;grind
 rw [e1]at h;exact h
theorem aod:SQ 5 (0:Rat):=⟨ar,ar,ar⟩
theorem at1:SQ 5 (1:Rat):=⟨ar,ar,ar⟩
def cw:CE:=⟨⟨0,0,0,0,0⟩,false,[-1,1], -1⟩
theorem I9:aj 45 [] (.bool true):=by have o0:=lY 0 1 ar ar;have o1:=lY 1 1 ar ar;rw [show dw 0 1=0 by decide,bW]at o0;rw [show dw 1 1=1 by decide,bW]at o1;have r0:=OU (t:=0) ar;have B:=ptA aod ar;have ta:=adK aod ar;have q4:aj 97 [.sl [[ae (-1)],[ae 1]]] (PI [-1,1]):=vI [-1,1] ar ar;have q5:aj 100 [PI [-1,1]] (Po [-1,1]):=NP [-1,1] (fun c hc=>by simp only [mem_cons,not_mem_nil,or_false]at hc;exact Nat.lt_of_le_of_lt (mQ (k:=1) (by rcases hc with rfl | rfl<;>decide)) ar) ar;have K:=k1;have bz:=(K.lay ar).bz;have nN:=dW (x:=(du 1).l) (bz.pb ar ar);rw [(du 1).c]at nN;have hS:aj 35 [aw fx [cw]] (aw fx [cw]):=xg (l:=[cw]) ar (fun x hx=>by simp only [mem_cons,not_mem_nil,or_false]at hx;subst hx;exact nN);have hY:=Ga (b:=false) (n:=A9.no) (z:=true) (L:=[]) (e:=0) (later:=false) (C:=[cw]) (S:=[cw]) (G:=WE.new) ar (fun s hs=>by simp only [mem_cons,not_mem_nil,or_false]at hs;subst hs;rfl) hS B.least (fun _ _ _=>rfl) (fun h=>by cases h);have hBe:=Ec hY;have hN:=oR (z:=false) (L:=[WE.new cw]) (e:=0) B.least;have hG:=K.next ar B at0;have e0:Ge [1] 0=0:=ar;rw [e0]at hG;have hr:=K.root ar (i:=0) ar;have hl:(wy (du 1)).length=1:=K.len ar;have en:nA (sq (du 1)) (wy (du 1)) 0=gX (sq (du 1)) (nth (wy (du 1)) 0):=if_pos aa;rw [en]at hG;have hK:=I6 (R:=fun _=>(true,gX (sq (du 1)) (nth (wy (du 1)) 0))) ar (fun h=>by cases h) hN (fun w hw _=>by simp only [mem_cons,not_mem_nil,or_false]at hw;subst hw;exact hG);have hX:=I7 (r:=gX (sq (du 1)) (nth (wy (du 1)) 0)) (ok:=true) ar hK hr.least;have hc:=hr.qcr (at1.mono (show 5<=uu S19 by decide)) (Nat.le_refl _) ar;rw [show nth [(1:Rat)] 0=1 from rfl,I8,bW]at hc;exact Gc o0 r0 ta q4 q5 hBe hX hr.fa o1 hc
end Go.Proofs.YtiobceocpabjdaaGreat
namespace Go.Proofs.YtiobceocpabjdaaGreat
open Go Pm List
variable {P:Program}{t:TypeId}{xs:Array Value}{i d:Nat}{v:Value}{w:World}{b:Bool}
theorem Ja{a:List Int}(ha:a.length<1099511627776):aj 250 [us a,us a] (.bool true):=by
 apply bL [(0,us a),(1,us a)] Tryz.func250;apply aR [0,1]
 apply cS [0,1,10]<;>intro h
 ·simp at h
 ·apply (jm);apply yM [0,1,5]
  refine W.aO (fun k σ=>∃(i:Nat),aQ σ [(0,us a),(1,us a),(5,ae i)] fun rows clk=>i+k=a.length) a.length ?_ ?_
  ·exact⟨_, .refl,0,_,_,rfl,aa⟩
  rintro k _ ⟨i,rows,clk,rfl,qu⟩
  apply cS [0,1,5,14]<;>intro h
  ·have hi:i<a.length:=(by simp at h;omega);apply (ft);apply W.sd;simp (disch:=omega) [gw,hi,u32]
   apply u7 [0,1,5,25]<;>intro h
   ·simp at h
   ·apply W.skip;refine bB fun K hK=>?_;exact hK _ ⟨k-1,_,ak _ [0,1,5],aa,i+1,_,_,rfl,aa⟩
  ·exact rb [4]
theorem Gf{x:Int}(hx:(aI LL x.natAbs).length<1099511627776):aj 190 [.ag (ie x), .ag (ie x)] (.bool true):=by have k1:=Ja hx;unfold ie;generalize decide (x<0)=b;generalize aI LL x.natAbs=d at *;apply bL [(0, .ag [.bool b,us d]),(1, .ag [.bool b,us d])] Tryz.func190;apply fk [2,3] k1 [4];exact gK
theorem CP{p:List Int}(hp:p.length<1099511627776)(hz:∀c∈p,(aI LL c.natAbs).length<1099511627776):aj 107 [Po p,Po p] (.bool true):=by
 apply bL [(0,Po p),(1,Po p)] Tryz.func107;apply aR [0,1]
 apply cS [0,1,10]<;>intro h
 ·simp at h
 ·apply (jm);apply yM [0,1,12,13]
  refine W.aO (fun k σ=>∃(i:Nat),aQ σ [(0,Po p),(1,Po p),(12,ae p.length),(13,ae i)] fun rows clk=>i+k=p.length) p.length ?_ ?_
  ·exact⟨_, .refl,0,_,_,rfl,aa⟩
  rintro k _ ⟨i,rows,clk,rfl,qu⟩
  apply ef [0,1,12,13,14]<;>intro h
  ·have hi:i<p.length:=(by simp at h;omega);have k1:=Gf (hz _ (bo hi));unfold ie at k1;apply (ft);apply gr [0,1,5,12,13];simp (disch:=omega) [gw,hi,ie];apply cT k1
   apply kt [0,1,12,13,25]<;>intro h
   ·simp at h
   ·apply W.skip;refine bB fun K hK=>?_;exact hK _ ⟨k-1,_,ak _ [0,1,12,13],aa,i+1,_,_,rfl,aa⟩
  ·exact rb [4]
theorem Mh:env.P.underlying 3=some (.int .i64):=by kernel_rfl
theorem eqI(hu:P.underlying t=some (.int .i64))(d:Nat)(w:World)(a b:Int):(Op.equalIn (d+1) t (iV a) (iV b)).run P w = .ok (a==b) w:=by simp [Op.equalIn,run_underlying hu,iV]
theorem OV(hu:P.underlying t=some (.int .i64))(w:World)(h:xs[i]? = some v):(part t xs i).run P w = .ok v w:=by simp [part,mq hu,qD,hu,Mw,h]
theorem pG(hu:P.underlying t=some (.int .i64)){ys:Array Value}{is:List Nat}{a b:Int}(hx:xs[i]? = some (iV a))(hy:ys[i]? = some (iV b)) :
  (Op.eqItems (d+1) t 1 xs ys (i::is)).run P w=if a=b then(Op.eqItems (d+1) t 1 xs ys is).run P w else .ok false w:=by
 simp only [Op.eqItems,Sem.run_bind,Nat.mul_one,OV hu w hx,OV hu w hy,Result.andThen_ok,eqI hu];by_cases h:a=b<;>simp [h]
theorem yz{ys:Array Value}{f:Field}{fs:List Field}{u:Value} (hn:f.name ≠ "_") (hx:(part f.type xs f.offset).run P w = .ok u w) (hy:(part f.type ys f.offset).run P w = .ok v w) (he:(Op.equalIn d f.type u v).run P w = .ok b w) :
  (Op.eqFields d xs ys (f::fs)).run P w=if b=true then(Op.eqFields d xs ys fs).run P w else .ok false w:=by
 simp only [Op.eqFields,if_pos hn,Sem.run_bind,hx,hy,Result.andThen_ok,he];cases b<;>simp
theorem ahm(d:Nat)(w:World)(a b c e a' b' c' e':Int):(Op.equalIn (d+2) 76 (.agg #[iV a,iV b,iV c,iV e]) (.agg #[iV a',iV b',iV c',iV e'])).run env.P w = .ok (decide ([a,b,c,e] = [a',b',c',e'])) w:=by
 have hu:env.P.underlying 76=some (.array 4 3):=bX;obtain⟨i,hi⟩:∃i,env.P.info? 3=some i:=Option.isSome_iff_exists.1 bX
 rw [show d+2=(d+1)+1 from rfl,run_equalIn_array w (d+1) _ _ hu hi,show env.P.cellsOf 3=1 by kernel_rfl,show List.range 4 = [0,1,2,3]from rfl,
  pG Mh (a:=a) (b:=a') rfl rfl,pG Mh (a:=b) (b:=b') rfl rfl,pG Mh (a:=c) (b:=c') rfl rfl,pG Mh (a:=e) (b:=e') rfl rfl]
 by_cases h1:a=a'<;>by_cases h2:b=b'<;>by_cases h3:c=c'<;>by_cases h4:e=e'<;>simp [h1,h2,h3,h4,Op.eqItems]
theorem adM:XW env.P 78 5:=by
 refine⟨fun w xs ys hx hy=>?_,bX⟩
 match xs,hx with
 | [k,a,b,c,d],_ =>
  match ys,hy with
  | [k',a',b',c',d'],_ =>
   obtain⟨f1,f2,hS,n1,t1,o1,n2,t2,o2⟩:∃f1 f2:Field,env.P.fieldsOf 78 = [f1,f2].toArray∧f1.name ≠ "_" ∧ f1.type=3∧f1.offset=0∧f2.name ≠ "_" ∧ f2.type=76∧f2.offset=1:=(by have h:env.P.fieldsOf 78=([⟨ "Kind",3,0,false, "", "",0⟩,⟨ "Ids",76,1,false, "", "",8⟩]:List Field).toArray:=bX;exact⟨_,_,h,ar,rfl,rfl,ar,rfl,rfl⟩);have hu:env.P.underlying 78=some (.struct (env.P.fieldsOf 78)):=bX;have hui:env.P.underlying 76=some (.array 4 3):=bX;obtain⟨i,hi⟩:∃i,env.P.info? 76=some i:=Option.isSome_iff_exists.1 bX;have mr:i.size=4:=(by have h:(env.P.info? 76).map (fun i=>i.size)=some 4:=bX;rw [hi]at h;simpa using h);have pA:∀x0 x1 x2 x3 x4:Int,(part 76 #[iV x0,iV x1,iV x2,iV x3,iV x4] 1).run env.P w = .ok (.agg #[iV x1,iV x2,iV x3,iV x4]) w:=(by intro x0 x1 x2 x3 x4;simp only [part,Sem.run_bind,mq hui,Result.andThen_ok,show qD env.P 76=true by kernel_rfl,if_true,c7 hi,mr,Sem.run_pure];rfl);show(Op.equalIn 10000 78 (.agg #[iV k,iV a,iV b,iV c,iV d]) (.agg #[iV k',iV a',iV b',iV c',iV d'])).run env.P w=_;rw [show(10000:Nat)=9999+1 from rfl,run_equalIn_struct w 9999 78 _ _ hu bX,hS];show(Op.eqFields 9999 _ _ [f1,f2]).run env.P w=_
   rw [yz (u:=iV k) (v:=iV k') (b:=k==k') n1 (by rw [t1,o1];exact OV Mh w rfl) (by rw [t1,o1];exact OV Mh w rfl) (by rw [t1];exact eqI Mh 9998 w k k'),
    yz n2 (by rw [t2,o2];exact pA k a b c d) (by rw [t2,o2];exact pA k' a' b' c' d') (by rw [t2];exact ahm 9997 w a b c d a' b' c' d')]
   by_cases h1:k=k'<;>by_cases h2:[a,b,c,d] = [a',b',c',d']<;>simp [h1,h2,Op.eqFields]
theorem ahn:∀ {s t:Tg},s.k=t.k->s.a=t.a->s.b=t.b->s.c=t.c->s.d=t.d->s=t
 | ⟨_,_,_,_,_⟩,⟨_,_,_,_,_⟩,rfl,rfl,rfl,rfl,rfl=>rfl
theorem aoe{s t:Tg}(h:s≠t):(!decide (s.k=t.k) || (!decide (s.a=t.a) || (!decide (s.b=t.b) || (!decide (s.c=t.c) || !decide (s.d=t.d)))))=true:=by refine Classical.byContradiction fun g=>h ?_;simp only [Bool.or_eq_true,Bool.not_eq_true',decide_eq_false_iff_not,not_or,Decidable.not_not]at g;exact ahn g.1 g.2.1 g.2.2.1 g.2.2.2.1 g.2.2.2.2
def Jv(x:CE)(sm:WE->Bool)(c:WE->Int):List WE->WE
 | []=>WE.new x
 | w::l=>if (decide (w.t=x.t)&&w.k&&sm w&&(!w.o || decide (0<c w)))=true then⟨x.t,x.p,x.w,true,w.o,w.f⟩else Jv x sm c l
def kfl(x:CE)(sm:WE->Bool)(c:WE->Int):List WE->Bool
 | []=>true
 | w::l=>if (decide (w.t=x.t)&&w.k&&sm w&&(!w.o || decide (0<c w)))=true then false else kfl x sm c l
theorem W3{x:CE}{sm:WE->Bool}{c:WE->Int}:∀ {l:List WE},kfl x sm c l=true->(Jv x sm c l).f=A9.no
 | [],_=>rfl
 | w::l,h=>by
  rw [kfl]at h;rw [Jv]
  split at h
  ·cases h
  ·rename_i hn;rw [if_neg hn];exact W3 h
set_option maxHeartbeats 4000000 in
theorem W4{n t:A9}{z:Bool}{L:List WE}{e:Int}{x:CE}{sm:WE->Bool}{c:WE->Int}(hl:L.length<1000000)(hz:z=true->L = [])(hx:x.z=false)
  (hS:∀w∈L,w.t=x.t->w.k=true->aj 251 [Po w.p,Po x.p] (.bool (sm w)))
  (hC:∀w∈L,w.t=x.t->w.k=true->sm w=true->w.o=true->aj 110 [.ag (b9 w.f), .ag (b9 t)] (ae (c w))) :
  jq 191 [.ag (fx x), .ag (b9 t)] 95 12 (co b n z L e) (co b n z L e) (.ag (wek (kfl x sm c L) (Jv x sm c L))):=by
 obtain⟨y,hy⟩:∃y,kfl x sm c L=y:=⟨_,rfl⟩
 rw [hy];obtain⟨r,hr⟩:∃r,Jv x sm c L=r:=⟨_,rfl⟩
 rw [hr];simp only [db,fW,hx,UG]at hC |-;rw [F9 y r];refine iz (E:=env) (fun _=>0) [(1, .ag [ae x.t.k,ae x.t.a,ae x.t.b,ae x.t.c,ae x.t.d, .sl (emap ie x.p),ae x.w]),(2, .ag [.sl t.y, .bool t.s, .sl t.d, .bool t.s', .sl t.d', .bool t.u, .sl t.e, .bool t.u', .sl t.e'])] Tryz.func191 rfl bX bX (show 3<=57 by decide) (by intro q;simp) ?_;intro id ver rows0 clk0 dY;apply fB [0,4,5,6]
 refine W.dx (fun σ=>∃(s:PV) (v4 v5 v6:Nat),aQ σ [(4, .ptr 4 v4 0 0),(5, .ptr 5 v5 0 0),(6, .ptr 6 v6 0 0),(12,s),(13,ae L.length),(14,ae 0)] fun rows clk=>(0<L.length->s=aw BW L)∧rows 4=some ⟨v4,82,7,[[ae x.t.k,ae x.t.a,ae x.t.b,ae x.t.c,ae x.t.d, .sl (emap ie x.p),ae x.w]]⟩∧rows 5=some ⟨v5,54,9,[[.sl t.y, .bool t.s, .sl t.d, .bool t.s', .sl t.d', .bool t.u, .sl t.e, .bool t.u', .sl t.e']]⟩∧rows 6=some ⟨v6,179,18,[[ae 0,ae 0,ae 0,ae 0,ae 0, .nil,ae 0, .bool false, .bool false, .nil, .bool false, .nil, .bool false, .nil, .bool false, .nil, .bool false, .nil]]⟩∧rows (id+1000000)=some ⟨ver,95,12,[co b n z L e]⟩∧(∀j,j≠id->rows (j+1000000)=rows0 (j+1000000))) (fun K hK=>?_) ?_
 ·cases z
  ·simp (disch:=omega) [gw,dY,ff];exact hK _ _ (ak _ [4,5,6,12,13,14]) ⟨_,_,_,_,_,_,rfl,fun _=>rfl,av,av,av,by simp [dY,ff],by intro j hj;simp [hj]⟩
  ·obtain rfl:=hz rfl;simp (disch:=omega) [gw,dY,ff];exact hK _ _ (ak _ [4,5,6,12,13,14]) ⟨_,_,_,_,_,_,rfl,av,av,av,av,by simp [dY,ff],by intro j hj;simp [hj]⟩
 clear dY;rintro _ ⟨s,v4,v5,v6,rows,clk,rfl,hs,cN,dj,gu,dY,eJ⟩;apply W.block
 refine W.aO (fun k σ=>∃(i v4 v5 v6:Nat),aQ σ [(4, .ptr 4 v4 0 0),(5, .ptr 5 v5 0 0),(6, .ptr 6 v6 0 0),(12,s),(13,ae L.length),(14,ae i)] fun rows clk=>i+k=L.length∧Jv x sm c (L.drop i)=r∧kfl x sm c (L.drop i)=y∧rows 4=some ⟨v4,82,7,[[ae x.t.k,ae x.t.a,ae x.t.b,ae x.t.c,ae x.t.d, .sl (emap ie x.p),ae x.w]]⟩∧rows 5=some ⟨v5,54,9,[[.sl t.y, .bool t.s, .sl t.d, .bool t.s', .sl t.d', .bool t.u, .sl t.e, .bool t.u', .sl t.e']]⟩∧rows 6=some ⟨v6,179,18,[[ae 0,ae 0,ae 0,ae 0,ae 0, .nil,ae 0, .bool false, .bool false, .nil, .bool false, .nil, .bool false, .nil, .bool false, .nil, .bool false, .nil]]⟩∧rows (id+1000000)=some ⟨ver,95,12,[co b n z L e]⟩∧(∀j,j≠id->rows (j+1000000)=rows0 (j+1000000))) L.length ?_ ?_
 ·exact⟨_,ak _ [4,5,6,12,13,14],0,v4,v5,v6,rows,clk,rfl,aa,by rw [drop_zero];exact hr,by rw [drop_zero];exact hy,cN,dj,gu,dY,eJ⟩
 clear cN dj gu dY eJ rows clk v4 v5 v6;rintro k _ ⟨i,v4,v5,v6,rows,clk,rfl,qu,Nv,Ss,cN,dj,gu,dY,eJ⟩
 apply ef [4,5,6,12,13,14,15]<;>intro h
 ·have hi:i<L.length:=by simp at h;omega
  obtain rfl:=hs aa;have hS':=hS _ (bo hi);have hC':=hC _ (bo hi);rw [drop_eq_getElem_cons hi,<-bJ hi,Jv]at Nv;rw [drop_eq_getElem_cons hi,<-bJ hi,kfl]at Ss;generalize hw:nth L i=w at *;generalize sm w=q,c w=u at *;have q1:=adM;apply W.skip
  refine W.dh (fun σ=>∃(v4 v5 v6:Nat),aQ σ [(4, .ptr 4 v4 0 0),(5, .ptr 5 v5 0 0),(6, .ptr 6 v6 0 0),(12,aw BW L),(13,ae L.length),(14,ae i)] fun rows clk=>Jv x sm c (L.drop (i+1))=r∧kfl x sm c (L.drop (i+1))=y∧rows 4=some ⟨v4,82,7,[[ae x.t.k,ae x.t.a,ae x.t.b,ae x.t.c,ae x.t.d, .sl (emap ie x.p),ae x.w]]⟩∧rows 5=some ⟨v5,54,9,[[.sl t.y, .bool t.s, .sl t.d, .bool t.s', .sl t.d', .bool t.u, .sl t.e, .bool t.u', .sl t.e']]⟩∧rows 6=some ⟨v6,179,18,[[ae 0,ae 0,ae 0,ae 0,ae 0, .nil,ae 0, .bool false, .bool false, .nil, .bool false, .nil, .bool false, .nil, .bool false, .nil, .bool false, .nil]]⟩∧rows (id+1000000)=some ⟨ver,95,12,[co b n z L e]⟩∧(∀j,j≠id->rows (j+1000000)=rows0 (j+1000000))) ?_ ?_
  ·apply W.sr;simp (disch:=omega) [gw,hi,hw,fK];apply c9 [4,5,6,8,12,13,14];apply W.seq
   refine W.dx (fun σ=>∃(v8:Nat),aQ σ [(4, .ptr 4 v4 0 0),(5, .ptr 5 v5 0 0),(6, .ptr 6 v6 0 0),(8, .ptr 8 v8 0 0),(12,aw BW L),(13,ae L.length),(14,ae i),(37, .bool (!(decide (w.t=x.t)&&w.k&&q)))] fun rows clk=>rows 8=some ⟨v8,179,18,[BW w]⟩∧rows 4=some ⟨v4,82,7,[[ae x.t.k,ae x.t.a,ae x.t.b,ae x.t.c,ae x.t.d, .sl (emap ie x.p),ae x.w]]⟩∧rows 5=some ⟨v5,54,9,[[.sl t.y, .bool t.s, .sl t.d, .bool t.s', .sl t.d', .bool t.u, .sl t.e, .bool t.u', .sl t.e']]⟩∧rows 6=some ⟨v6,179,18,[[ae 0,ae 0,ae 0,ae 0,ae 0, .nil,ae 0, .bool false, .bool false, .nil, .bool false, .nil, .bool false, .nil, .bool false, .nil, .bool false, .nil]]⟩∧rows (id+1000000)=some ⟨ver,95,12,[co b n z L e]⟩∧(∀j,j≠id->rows (j+1000000)=rows0 (j+1000000))) (fun K hK=>?_) ?_
   ·by_cases ht:w.t=x.t
    ·cases hk:w.k
     ·simp (disch:=omega) [gw,cN,q1,allI,jt,ht,hk];exact hK _ _ (ak _ [4,5,6,8,12,13,14,37]) ⟨_,_,_,by rw [hk,Bool.and_false,Bool.false_and];rfl,by simp [fK,ht,hk],by simp [cN],by simp [dj],by simp [gu],by simp [dY],by intro j hj;simp [hj,eJ]⟩
     ·simp (disch:=omega) [gw,cN,q1,allI,jt,ht,hk];apply cT (hS' ht hk);apply (cp);exact hK _ _ (ak _ [4,5,6,8,12,13,14,37]) ⟨_,_,_,by rw [hk,Bool.and_true,decide_eq_true ht,Bool.true_and];rfl,by simp [fK,ht,hk],by simp [cN],by simp [dj],by simp [gu],by simp [dY],by intro j hj;simp [hj,eJ]⟩
    ·have km:=aoe ht;simp (disch:=omega) [gw,cN,q1,allI,jt,km];exact hK _ _ (ak _ [4,5,6,8,12,13,14,37]) ⟨_,_,_,by rw [decide_eq_false ht,Bool.false_and,Bool.false_and];rfl,by simp [fK],by simp [cN],by simp [dj],by simp [gu],by simp [dY],by intro j hj;simp [hj,eJ]⟩
   clear cN dj gu dY eJ rows clk;rintro _ ⟨v8,rows,clk,rfl,mI,cN,dj,gu,dY,eJ⟩
   apply (dI)<;>intro h
   ·have hn:(decide (w.t=x.t)&&w.k&&q)=false:=(by rw [Bool.not_eq_true']at h;exact h);rw [hn,Bool.false_and,if_neg ar]at Nv Ss;apply (ey);exact⟨_,ak _ [4,5,6,12,13,14],_,_,_,_,_,rfl,Nv,Ss,cN,dj,gu,dY,eJ⟩
   have hn:(decide (w.t=x.t)&&w.k&&q)=true:=(by rw [Bool.not_eq_false']at h;exact h);have wX:w.t=x.t∧w.k=true∧q=true:=(by simpa [and_assoc]using hn);obtain⟨n1,n2,n3⟩:=wX;rw [hn,Bool.true_and]at Nv Ss;have hC2:=hC' n1 n2 n3;rw [fK]at mI;apply W.skip
   refine W.dx (fun σ=>aQ σ [(4, .ptr 4 v4 0 0),(5, .ptr 5 v5 0 0),(6, .ptr 6 v6 0 0),(8, .ptr 8 v8 0 0),(12,aw BW L),(13,ae L.length),(14,ae i),(47, .bool (!w.o || decide (0<u)))] fun rows clk=>rows 8=some ⟨v8,179,18,[BW w]⟩∧rows 4=some ⟨v4,82,7,[[ae x.t.k,ae x.t.a,ae x.t.b,ae x.t.c,ae x.t.d, .sl (emap ie x.p),ae x.w]]⟩∧rows 5=some ⟨v5,54,9,[[.sl t.y, .bool t.s, .sl t.d, .bool t.s', .sl t.d', .bool t.u, .sl t.e, .bool t.u', .sl t.e']]⟩∧rows 6=some ⟨v6,179,18,[[ae 0,ae 0,ae 0,ae 0,ae 0, .nil,ae 0, .bool false, .bool false, .nil, .bool false, .nil, .bool false, .nil, .bool false, .nil, .bool false, .nil]]⟩∧rows (id+1000000)=some ⟨ver,95,12,[co b n z L e]⟩∧(∀j,j≠id->rows (j+1000000)=rows0 (j+1000000))) (fun K hK=>?_) ?_
   ·cases ho:w.o
    ·apply fN mI ho;exact hK _ _ (ak _ [4,5,6,8,12,13,14,47]) ⟨_,_,by rw [ho,Bool.not_false,Bool.true_or];rfl,by simp [mI,fK],by simp [cN],by simp [dj],by simp [gu],by simp [dY],by intro j hj;simp [hj,eJ]⟩
    ·apply ra mI dj ho (hC2 ho);apply (cp);exact hK _ _ (ak _ [4,5,6,8,12,13,14,47]) ⟨_,_,by rw [ho,Bool.not_true,Bool.false_or];rfl,by simp [mI,fK],by simp [cN],by simp [dj],by simp [gu],by simp [dY],by intro j hj;simp [hj,eJ]⟩
   clear cN dj gu mI dY eJ rows clk;rintro _ ⟨rows,clk,rfl,mI,cN,dj,gu,dY,eJ⟩;rw [fK]at mI
   apply (dI)<;>intro h
   ·rw [if_pos h]at Nv Ss;subst Nv Ss;apply W.sr;apply qk mI cN gu;apply c9 [6];apply W.ret;simp [go,dY];exact⟨rfl,fun j hj=>by simp [hj,eJ]⟩
   ·rw [if_neg (by rw [h];decide)]at Nv Ss;apply W.skip;exact⟨_,ak _ [4,5,6,12,13,14],_,_,_,_,_,rfl,Nv,Ss,cN,dj,gu,dY,eJ⟩
  clear cN dj gu dY eJ rows clk v4 v5 v6;rintro _ ⟨v4,v5,v6,rows,clk,rfl,Nv,Ss,cN,dj,gu,dY,eJ⟩;refine bB fun K hK=>?_;refine hK _ ⟨k-1,_,ak _ [4,5,6,12,13,14],aa,i+1,_,_,_,_,_,rfl,aa,Nv,Ss,cN,dj,gu,dY,eJ⟩
 ·have hi:i=L.length:=by simp at h;omega
  subst hi;rw [drop_length,Jv]at Nv;rw [drop_length,kfl]at Ss;subst Nv Ss;apply (iq);apply AA cN gu [6];apply W.ret;simp only [WE.new,A9.no,arV];simp [go,dY];exact⟨rfl,fun j hj=>by simp [hj,eJ]⟩
end Go.Proofs.YtiobceocpabjdaaGreat
namespace Go.Proofs.YtiobceocpabjdaaGreat
open Go Pm
open ZX hiding N W
variable {a:ZX}{x y:Int}{A B:A9}
theorem Jb{α:Type}{g:α->List PV}(hg:∀x y,g x=g y->x=y){a b:List α}(h:emap g a=emap g b):a=b:=(List.map_inj_right hg).1 h
theorem aaW{a b:List Int}(h:emap u32 a=emap u32 b):a=b:=Jb (fun x y h=>by simpa [u32]using h) h
theorem Jc(h:emap u32 (aI LL x.natAbs)=emap u32 (aI LL y.natAbs)):x.natAbs=y.natAbs:=by have h3:=aaW h;have a:=K4 x;have b:=K4 y;rw [h3]at a;omega
theorem OW(h1:decide (x<0)=decide (y<0))(h2:emap u32 (aI LL x.natAbs)=emap u32 (aI LL y.natAbs)):x=y:=by have h4:=Jc h2;have h5:x<0↔y<0:=decide_eq_decide.1 h1;omega
theorem aho(x y:Int)(h:ie x=ie y):x=y:=by unfold ie at h;simp only [List.cons.injEq,PV.bool.injEq,and_true,aw,PV.sl.injEq]at h;exact OW h.1 h.2
theorem OX{p q:Rat}(h1:decide (p.num<0)=decide (q.num<0))(h2:emap u32 (aI LL p.num.natAbs)=emap u32 (aI LL q.num.natAbs))(h3:emap u32 (aI LL (p.den:Int).natAbs)=emap u32 (aI LL (q.den:Int).natAbs)):p=q:=by have a:=OW h1 h2;have b:=Jc h3;exact Rat.ext a aa
abbrev Nm:Type:=ZX × Rat × Rat
variable {e:Nm}
def gN(e:Nm):A9:=gX e.1 e.2
theorem ahp{d:Nm}(h:gN e=gN d):e=d:=by obtain⟨f,p,q⟩:=e;obtain⟨g,r,s⟩:=d;simp only [gN,gX,A9.mk.injEq]at h;obtain⟨h1,h2,h3,h4,h5,h6,h7,h8,h9⟩:=h;have a:=Jb aho h1;have b:=OX h2 h3 h5;have c:=OX h6 h7 h9;subst b c;rw [show f=g from ZX.ext fun t=>by rw [a]]
abbrev S18:Nat:=qb 18 6
abbrev U18:Nat:=uu S18
structure NN(e:Nm):Prop where
 a:AN S18 6 U18 e.1 e.2
 b:AN S18 6 U18 e.1 (ex e.1 e.2)
def NA(A:A9):Prop:=∃e,NN e∧gN e=A
noncomputable def jI(A:A9):Nm:=open Classical in if h:NA A then Classical.choose h else(0,0,0)
theorem et(h:NA A):NN (jI A)∧gN (jI A)=A:=by unfold jI;rw [dif_pos h];exact Classical.choose_spec h
theorem Mj(h:NN e):jI (gN e)=e:=ahp (et ⟨e,h,rfl⟩).2
theorem NA.of(h:NN e):NA (gN e):=⟨e,h,rfl⟩
noncomputable def cA(A:A9):Rat->Prop:=bk (jI A).1 (jI A).2
theorem si(h:NN e):cA (gN e)=bk e.1 e.2:=by unfold cA;rw [Mj h]
noncomputable def gZ(A B:A9):Int:=cu (cA A) (cA B)
section
variable {A B:A9} (hA:NA A)
include hA
theorem NA.up:∀s t,cA A s->s<=t->cA A t:=(cR (et hA).1.a.A).up
theorem NA.fr:aj 198 [.ag (b9 A)] (.ag (b9 A)):=by obtain⟨⟨a,_⟩,h⟩:=et hA;have:=Eb (r9 a.I.ch.bz ar (by have:=a.I.lay.hn;omega) a.q1 a.q2 (by have:=a.hu;omega));rw [<-h];exact this
theorem NA.least:aj 112 [.sl [b9 A]] (.cW [.ag (b9 A), .bool true]):=uF (c:=fun _ _=>0) (l:=[]) ar (fun y h=>by cases h) hA.fr
theorem NA.cmp(hB:NA B):aj 110 [.ag (b9 A), .ag (b9 B)] (ae (gZ A B)):=by obtain⟨⟨a,_⟩,h⟩:=et hA;obtain⟨⟨b,_⟩,h'⟩:=et hB;have:=a.ahc b cp2;rw [<-h,<-h',gZ,si (et hA).1,si (et hB).1];exact this
theorem NA.cr{t:Rat}(q:SQ 5 t):aj 111 [.ag (b9 A),RT t] (ae (Pm.ZX.cr (cA A) t)):=by obtain⟨⟨a,_⟩,h⟩:=et hA;have:=a.om (q.mono (show 5<=U18 by decide)) (Nat.le_refl _) ar;rw [<-h,si (et hA).1];exact this
end
theorem aaX(a:ZX):of a.l=a:=ZX.ext fun t=>by rw [ZX.Li]
structure uL(a:ZX):Prop where
 ne:a≠0
 lay:p9 18 6 a
noncomputable def fO(a:ZX):ZX:=oz (nf a)
noncomputable def lO(a:ZX):List (Rat × Rat):=BO S18 6 (fO a)
namespace uL
variable {a:ZX} (h:uL a)
include h
theorem Mg:kS S18 6 (fO a):=Wv h.lay h.ne ar ar ar
theorem turns:aj 255 [Po a.l] (aw (ga (fO a)) (lO a)):=IY h.lay h.ne ar ar ar
theorem nn{q:Rat × Rat}(hq:q∈lO a):NN (fO a,q):=by have N6:ZX.N (fO a)<=6:=h.Mg.ch.bz.N;exact⟨(zJ h.Mg ar aa hq).1,(zJ h.Mg ar aa hq).2⟩
end uL
noncomputable def kx(a:ZX)(B:A9):Nat:=Classical.choose (js (fun i=>0<cu (bk (fO a) (nth (lO a) i)) (cA B)) (lO a).length)
theorem pH(a:ZX)(B:A9):kx a B<=(lO a).length∧(∀i,i<kx a B->¬0<cu (bk (fO a) (nth (lO a) i)) (cA B))∧(kx a B<(lO a).length->0<cu (bk (fO a) (nth (lO a) (kx a B))) (cA B)):=Classical.choose_spec (js (fun i=>0<cu (bk (fO a) (nth (lO a) i)) (cA B)) (lO a).length)
noncomputable def yA(x:List Int)(B:A9):Bool × A9:=if kx (of x) B<(lO (of x)).length then(true,gN (fO (of x),nth (lO (of x)) (kx (of x) B)))else(false,A9.no)
theorem uL.next(h:uL a)(hB:NA B):aj 206 [Po a.l, .ag (b9 B)] (.cW [.ag (b9 (yA a.l B).2), .bool (yA a.l B).1]):=by
 obtain⟨⟨b,_⟩,e⟩:=et hB;obtain⟨k1,k2,k3⟩:=pH a B;have hl:=wk h.Mg;change (lO a).length<=21 at hl;have hc:=fun i (hi:i<(lO a).length)=>(h.nn (bo hi)).a.ahc b cp2;have:=BU (y:=(jI B).1.l) (an:=(jI B).2.1.num) (ad:=(jI B).2.1.den) (bn:=(jI B).2.2.num) (bd:=(jI B).2.2.den) (k:=kx a B) h.turns aa k1 (fun i hi=>⟨_,hc i aa,k2 i hi⟩) (fun hk=>⟨_,hc _ hk,k3 hk⟩);unfold yA;rw [aaX];have e2:(.ag (b9 B):PV)=GA (jI B).1 (jI B).2:=by have e3:(.ag (b9 (gN (jI B))):PV)=GA (jI B).1 (jI B).2:=rfl;rwa [e]at e3
 rw [e2]
 by_cases hk:kx a B<(lO a).length
 ·rw [if_pos hk,decide_eq_true hk]at this;rw [if_pos hk];exact this
 ·rw [if_neg hk,decide_eq_false hk]at this;rw [if_neg hk];exact this
noncomputable def tO(a:ZX):List A9:=(lO a).map fun q=>gN (fO a,q)
theorem uL.nx(h:uL a)(ht:(yA a.l B).1=true):NA (yA a.l B).2∧0<gZ (yA a.l B).2 B∧(yA a.l B).2∈tO a:=by
 obtain⟨k1,k2,k3⟩:=pH a B;unfold yA at ht |-;rw [aaX]at ht |-
 by_cases hk:kx a B<(lO a).length
 ·rw [if_pos hk];have hn:=h.nn (bo hk);refine⟨⟨_,hn,rfl⟩,?_,List.mem_map.2 ⟨_,bo hk,rfl⟩⟩;rw [gZ,si hn];exact k3 hk
 ·rw [if_neg hk]at ht;cases ht
theorem uL.W5(h:uL a)(hA:A∈tO a):NA A:=by obtain⟨q,hq,rfl⟩:=List.mem_map.1 hA;exact⟨_,h.nn hq,rfl⟩
theorem uL.ahq(h:uL a):(tO a).length<=21:=by have:=wk h.Mg;unfold tO;rw [List.length_map];exact this
end Go.Proofs.YtiobceocpabjdaaGreat
namespace Go.Proofs.YtiobceocpabjdaaGreat
open Go Pm List
open ZX hiding N W
variable {L:List WE}{A m B:A9}{t:Rat}
structure Bld(PL:List ZX)(lo:A9)(g:FuncId)(bF:List PV)(C B:A9->List CE):Prop where
 XT:∀a∈PL,uL a
 cer:∀A,NA A -> ∀c∈B A,c.z=false ∧ ∃a∈PL,c.p=a.l
 len:∀A,NA A->(B A).length<1000
 bld:∀A,NA A->aj g (.ag (b9 A)::bF) (aw fx (C A))
 xY:∀A,NA A->aj 35 [aw fx (C A)] (aw fx (B A))
 lo:NA lo
 hw:env.writes g=false
 hm:env.uN g=false
 El:bF.all cB=true
noncomputable def Jd(n:A9)(L:List WE):List WE:=L.map (yS fun w=>yA w.p n)
noncomputable def xF(L:List WE):A9:=match wv L with
 | []=>A9.no
 | x::l=>CN gZ x l
def pI(L:List WE):Bool := !(wv L).isEmpty
noncomputable def lyL(B:A9->List CE)(a:A9)(L:List WE):List WE:=(B a).map fun s=>Jv s (fun w=>decide (w.p=s.p)) (fun w=>gZ w.f a) L
structure St(PL:List ZX)(n:A9)(L:List WE):Prop where
 len:L.length<1000
 pol:∀w∈L,∃a∈PL,w.p=a.l
 unk:∀w∈L,w.k=false->w.o=false
 kno:∀w∈L,w.o=true->NA w.f∧0<gZ w.f n∧w.f∈PL.flatMap tO
theorem aaY{PL:List ZX}{n:A9}{S:List CE}(hl:S.length<1000)(h:∀c∈S,∃a∈PL,c.p=a.l):St PL n (S.map WE.new) where
 len:=au hl
 pol:=fun w hw=>by obtain⟨c,hc,rfl⟩:=mem_map.1 hw;exact h c hc
 unk:=fun w hw _=>by obtain⟨c,hc,rfl⟩:=mem_map.1 hw;rfl
 kno:=fun w hw ho=>by obtain⟨c,hc,rfl⟩:=mem_map.1 hw;cases ho
section
variable {PL:List ZX} (hP:∀a∈PL,uL a) {n:A9} (hn:NA n)
include hP
theorem St.look(h:St PL n L):St PL n (Jd n L) ∧ ∀w∈Jd n L,w.k=true:=by
 refine⟨⟨by unfold Jd;simpa using h.len,fun w hw=>?_,fun w hw hk=>?_,fun w hw ho=>?_⟩,fun w hw=>?_⟩
 all_goals
  obtain⟨v,hv,rfl⟩:=mem_map.1 hw;by_cases hk:v.k=true
 ·rw [yS,if_pos hk];exact h.pol v hv
 ·rw [yS,if_neg hk];exact h.pol v hv
 ·rw [yS,if_pos hk]at *;exact h.unk v hv (by assumption)
 ·rename_i h2;rw [yS,if_neg hk]at h2;cases h2
 ·rw [yS,if_pos hk]at *;exact h.kno v hv ho
 ·rw [yS,if_neg hk]at *;obtain⟨a,ha,e⟩:=h.pol v hv;obtain⟨q1,q2,q3⟩:=(hP a ha).nx (B:=n) (by rw [<-e];exact ho);rw [<-e]at q1 q2 q3;exact⟨q1,q2,mem_flatMap.2 ⟨a,ha,q3⟩⟩
 ·rw [yS,if_pos hk];exact hk
 ·rw [yS,if_neg hk]
end
theorem me:A∈wv L ↔ ∃w∈L,w.o=true∧w.f=A:=by simp only [wv,mem_map,mem_filter];exact⟨fun⟨w,⟨h1,h2⟩,h3⟩=>⟨w,h1,h2,h3⟩,fun⟨w,h1,h2,h3⟩=>⟨w,⟨h1,h2⟩,h3⟩⟩
theorem zO(h:pI L=true):xF L∈wv L:=by
 unfold pI at h;unfold xF;cases e:wv L with
 | nil=>rw [e]at h;cases h
 | cons x l=>exact zM
theorem sY{x:CE}{sm:WE->Bool}{c:WE->Int}:∀ {l:List WE},Jv x sm c l=WE.new x ∨ ∃w∈l,Jv x sm c l=⟨x.t,x.p,x.w,true,w.o,w.f⟩∧(w.o=true->0<c w)
 | [] => .inl rfl
 | w::l=>by
  rw [Jv]
  split
  ·rename_i h;refine .inr ⟨w,av,rfl,fun ho=>?_⟩;simp only [Bool.and_eq_true,Bool.or_eq_true,Bool.not_eq_true',decide_eq_true_eq]at h
   rcases h.2 with h | h
   ·rw [ho]at h;cases h
   ·exact h
  ·rcases sY (x:=x) (sm:=sm) (c:=c) (l:=l)with h | ⟨v,hv,h1,h2⟩
   ·exact .inl h
   ·exact .inr ⟨v,mem_cons_of_mem _ hv,h1,h2⟩
theorem W6(hl:L.length<1000)(h:∀A∈wv L,NA A):aj 112 [aw b9 (wv L)] (.cW [.ag (b9 (xF L)), .bool (pI L)]):=by
 have hf:=OS L;unfold xF pI;cases e:wv L with
 | nil=>exact RO
 | cons x l =>
  rw [e]at h hf;have hl':l.length<1000000:=by simp at hf;omega
  have hm:NA (CN gZ x l):=h _ zM;exact uF hl' (fun y hy b hb=>(h y (mem_cons_of_mem _ hy)).cmp (h b hb)) hm.fr
section
variable {PL:List ZX} {lo:A9} {g:FuncId} {bF:List PV} {C B:A9->List CE} (D:Bld PL lo g bF C B) {n:A9} (hn:NA n)
include D hn
theorem aaZ(h:St PL n L)(e:Int):jq 120 [] 95 12 (co true n false L e) (co true n false (Jd n L) e) (.cW []):=
 I6 (by have:=h.len;omega) (fun h=>by cases h) (oR hn.least) fun w hw _=>by obtain⟨a,ha,e⟩:=h.pol w hw;rw [e];exact(D.XT a ha).next hn
theorem aa0(h:St PL n L)(e:Int):jq 51 [] 95 12 (co true n false L e) (co true n false (Jd n L) e) (.cW [.ag (b9 (xF (Jd n L))), .bool (pI (Jd n L))]):=by have hM:=(h.look D.XT).1;refine I7 (by have:=hM.len;omega) (aaZ D hn h e) (W6 hM.len fun A hA=>?_);obtain⟨w,hw,ho,rfl⟩:=me.1 hA;exact(hM.kno w hw ho).1
theorem aa1(hL:St PL m L):St PL n (lyL B n L) where
 len:=by unfold lyL;simpa using D.len n hn
 pol:=fun w hw=>by obtain⟨s,hs,rfl⟩:=mem_map.1 hw;obtain⟨_,h⟩:=D.cer n hn s hs;rcases sY (x:=s) (sm:=fun w=>decide (w.p=s.p)) (c:=fun w=>gZ w.f n) (l:=L)with e | ⟨v,_,e,_⟩<;>rw [e]<;>exact h
 unk:=fun w hw hk=>by
  obtain⟨s,hs,rfl⟩:=mem_map.1 hw
  rcases sY (x:=s) (sm:=fun w=>decide (w.p=s.p)) (c:=fun w=>gZ w.f n) (l:=L)with e | ⟨v,_,e,_⟩
  ·rw [e];rfl
  ·rw [e]at hk;cases hk
 kno:=fun w hw ho=>by
  obtain⟨s,hs,rfl⟩:=mem_map.1 hw
  rcases sY (x:=s) (sm:=fun w=>decide (w.p=s.p)) (c:=fun w=>gZ w.f n) (l:=L)with e | ⟨v,hv,e,h⟩
  ·rw [e]at ho;cases ho
  ·rw [e]at ho |-;obtain⟨q1,_,q3⟩:=hL.kno v hv ho;exact⟨q1,h ho,q3⟩
theorem aht{k:A9}(hL:St PL m L)(e:Int):jq 109 [.ag (b9 n), .bool true,aw fx (C n)] 95 12 (co true k false L e) (co true n false (lyL B n L) e) (.cW []):=by
 refine Ga (by have:=D.len n hn;omega) (fun s hs=>(D.cer n hn s hs).1) (D.xY n hn) hn.least (fun h=>by cases h) fun _ s hs=>⟨_,fun h=>W3 h,W4 (by have:=hL.len;omega) (fun h=>by cases h) (D.cer n hn s hs).1 (fun w hw _ _=>?_) (fun w hw _ _ _ ho=>(hL.kno w hw ho).1.cmp hn)⟩
 obtain⟨a,ha,e1⟩:=hL.pol w hw;obtain⟨_,a',CQ,e2⟩:=D.cer n hn s hs;have b1:=(D.XT a ha).lay.bz;have b2:=(D.XT a' CQ).lay.bz;have:=KS (x:=a.l) (y:=a'.l) (b1.pb ar ar) (b2.pb ar ar);rw [a.c,a'.c]at this;rw [e1,e2];exact this
end
theorem Ee{α:Type}{p q:α->Bool}:∀ {F:List α},(∀x∈F,p x=true->q x=true)->(∃x∈F,q x=true∧p x=false)->F.countP p<F.countP q
 | [],_,⟨_,h,_⟩=>by cases h
 | y::F,h,⟨x,hx,h1,h2⟩=>by
  rw [countP_cons,countP_cons];have hy:=h y av;have hle:F.countP p<=F.countP q:=countP_mono_left fun z hz=>h z (mem_cons_of_mem _ hz)
  rcases mem_cons.1 hx with rfl | hx
  ·rw [h1,h2];simp;omega
  ·have:=Ee (fun z hz=>h z (mem_cons_of_mem _ hz)) ⟨x,hx,h1,h2⟩
   by_cases hp:p y=true
   ·rw [hp,hy hp];simp;omega
   ·rw [if_neg hp];omega
noncomputable def wB(B:A9->List CE)(lo:A9):Nat->A9 × List WE
 | 0=>(lo,(B lo).map WE.new)
 | i+1=>(xF (Jd (wB B lo i).1 (wB B lo i).2),lyL B (xF (Jd (wB B lo i).1 (wB B lo i).2)) (Jd (wB B lo i).1 (wB B lo i).2))
noncomputable def lL(B:A9->List CE)(lo:A9)(i:Nat):List WE:=Jd (wB B lo i).1 (wB B lo i).2
theorem BX(B:A9->List CE)(lo:A9)(i:Nat):wB B lo (i+1)=(xF (lL B lo i),lyL B (xF (lL B lo i)) (lL B lo i)):=rfl
noncomputable def rk(F:List A9)(A:A9):Nat:=F.countP fun C=>decide (¬0<gZ C A)
theorem uG(hA:NA A)(hB:NA B):0<gZ A B ↔ ∃t,cA B t∧¬cA A t:=Gb hA.up hB.up
theorem Je{C:A9}(hA:NA A)(hB:NA B)(hC:NA C)(h1:0<gZ B A)(h2:0<gZ C B):0<gZ C A:=by
 obtain⟨t,t1,t2⟩:=(uG hB hA).1 h1;obtain⟨s,s1,s2⟩:=(uG hC hB).1 h2;refine(uG hC hA).2 ⟨s,?_,s2⟩
 by_cases h:t<=s
 ·exact hA.up _ _ t1 h
 ·exact absurd (hB.up _ _ s1 aG) t2
theorem GN{F:List A9}(hF:∀C∈F,NA C)(hA:NA A)(hB:B∈F)(h:0<gZ B A):rk F A<rk F B:=by refine Ee (fun C hC h1=>?_) ⟨B,hB,decide_eq_true (by rw [gZ,FU];decide),decide_eq_false fun h2=>h2 h⟩;refine decide_eq_true fun h2=>of_decide_eq_true h1 ?_;exact Je hA (hF B hB) (hF C hC) h h2
section
variable {PL:List ZX} {lo:A9} {g:FuncId} {bF:List PV} {C B:A9->List CE} (D:Bld PL lo g bF C B)
include D
theorem nS:∀i,(∀j,j<i->pI (lL B lo j)=true)->NA (wB B lo i).1∧St PL (wB B lo i).1 (wB B lo i).2∧(0<i->(wB B lo i).1∈PL.flatMap tO)
 | 0,_=>⟨D.lo,aaY (D.len _ D.lo) fun c hc=>(D.cer _ D.lo c hc).2,fun h=>absurd h (Nat.lt_irrefl _)⟩
 | i+1,h=>by obtain⟨h1,h2,_⟩:=nS i fun j hj=>h j aa;have hL:=(h2.look D.XT).1;change St PL _ (lL B lo i)at hL;obtain⟨w,hw,ho,e⟩:=me.1 (zO (h i aa));obtain⟨q1,q2,q3⟩:=hL.kno w hw ho;rw [e]at q1 q2 q3;rw [BX];exact⟨q1,aa1 D q1 hL,fun _=>q3⟩
theorem B2(i:Nat)(h:∀j,j<i->pI (lL B lo j)=true)(hi:pI (lL B lo i)=true):0<gZ (xF (lL B lo i)) (wB B lo i).1:=by obtain⟨h1,h2,_⟩:=nS D i h;have hL:=(h2.look D.XT).1;change St PL _ (lL B lo i)at hL;obtain⟨w,hw,ho,e⟩:=me.1 (zO hi);obtain⟨q1,q2,q3⟩:=hL.kno w hw ho;rw [e]at q2;exact q2
theorem W5:∀C∈PL.flatMap tO,NA C:=fun C hC=>by obtain⟨a,ha,h⟩:=mem_flatMap.1 hC;exact(D.XT a ha).W5 h
theorem W7:∀i,(∀j,j<i->pI (lL B lo j)=true)->i<=rk (PL.flatMap tO) (wB B lo i).1
 | 0,_=>Nat.zero_le _
 | i+1,h=>by have ih:=W7 i fun j hj=>h j aa;have h1:=nS D i fun j hj=>h j aa;have h2:=nS D (i+1) h;have h3:=B2 D i (fun j hj=>h j aa) (h i aa);have:=GN (W5 D) h1.1 (h2.2.2 aa) h3;omega
theorem aa2(i:Nat)(h:∀j,j<i->pI (lL B lo j)=true):i<=(PL.flatMap tO).length:=Nat.le_trans (W7 D i h) countP_le_length
theorem W8(t:Rat):∃K,K<=(PL.flatMap tO).length∧(∀j,j<K->pI (lL B lo j)=true∧¬0<ZX.cr (cA (xF (lL B lo j))) t)∧(pI (lL B lo K)=true->0<ZX.cr (cA (xF (lL B lo K))) t):=by obtain⟨J,h1,h2,h3⟩:=js (fun j=>¬(pI (lL B lo j)=true∧¬0<ZX.cr (cA (xF (lL B lo j))) t)) ((PL.flatMap tO).length+1);have h2':∀j,j<J->pI (lL B lo j)=true∧¬0<ZX.cr (cA (xF (lL B lo j))) t:=fun j hj=>Classical.not_not.1 (h2 j hj);have h4:=aa2 D J fun j hj=>(h2' j hj).1;exact⟨J,h4,h2',fun hk=>Classical.byContradiction fun h5=>h3 aa ⟨hk,h5⟩⟩
end
theorem adQ(f:ZX)(t:Rat):ex f (t,t)=(t,t):=by unfold ex;split<;>rfl
theorem OY(q:SQ 5 t)(sb:t.num.natAbs<=30∧((t.den:Int)).natAbs<=6):NN (du t,(t,t)):=by have I:=BT (s:=S18) (n:=6) sb ar ar ar (Nat.le_trans (show 6+1<=2^3 by decide) (Nat.pow_le_pow_right ar ar)) ar ar;have A:=(adH (u:=U18) I ar (by rw [j6];decide) (sf t) (q.mono ar) ar).1;refine⟨A,?_⟩;show AN S18 6 U18 (du t) (ex (du t) (t,t));rw [adQ];exact A
noncomputable def Jf(t:Rat):A9:=gN (du t,(t,t))
theorem W9(q:SQ 5 t)(sb:t.num.natAbs<=30∧((t.den:Int)).natAbs<=6):NA (Jf t):=.of (OY q sb)
theorem adR(q:SQ 5 t)(sb:t.num.natAbs<=30∧((t.den:Int)).natAbs<=6)(u:Rat):ZX.cr (cA (Jf t)) u=CO t u:=by rw [Jf,si (OY q sb)];exact W2 (fun _=>gW rfl _) u
structure Std(B:A9->List CE)(lo:A9)(n:A9)(L:List WE)(i:Nat):Prop where
 na:NA n
 nx:jq 51 [] 95 12 (co true n false L i) (co true n false (lL B lo i) i) (.cW [.ag (b9 (xF (lL B lo i))), .bool (pI (lL B lo i))])
section
variable {PL:List ZX} {lo:A9} {g:FuncId} {bF:List PV} {C B:A9->List CE} (D:Bld PL lo g bF C B)
noncomputable def kT(t:Rat):Nat:=Classical.choose (W8 D t)
theorem aa3(t:Rat):kT D t<=(PL.flatMap tO).length∧(∀j,j<kT D t->pI (lL B lo j)=true∧¬0<ZX.cr (cA (xF (lL B lo j))) t)∧(pI (lL B lo (kT D t))=true->0<ZX.cr (cA (xF (lL B lo (kT D t)))) t):=Classical.choose_spec (W8 D t)
include D
theorem OZ(i:Nat)(h:∀j,j<i->pI (lL B lo j)=true)(hi:pI (lL B lo i)=true):NA (xF (lL B lo i)):=(nS D (i+1) fun j hj=>by
 rcases Nat.lt_or_ge j i with h1 | h1
 ·exact h j h1
 ·rw [show j=i by omega];exact hi).1
theorem O0(i:Nat)(h:∀j,j<i->pI (lL B lo j)=true):Std B lo (wB B lo i).1 (wB B lo i).2 i:=by obtain⟨h1,h2,_⟩:=nS D i h;exact⟨h1,aa0 D h1 h2 _⟩
end
end Go.Proofs.YtiobceocpabjdaaGreat
namespace Go.Proofs.YtiobceocpabjdaaGreat
open Go Pm List
set_option maxHeartbeats 2000000 in
theorem B3{l:List CE}(hl:l.length<1048576)(hz:∀x∈l,x.z=false∧aj 107 [Po x.p,Po x.p] (.bool true)):aj 34 [aw fx l,aw fx l] (.bool true):=by
 apply bL [(0,aw fx l),(1,aw fx l)] Tryz.func34;apply aR [0,1]
 apply cS [0,1,10]<;>intro h
 ·simp at h
 ·apply (jm);apply yM [0,1,12,13]
  refine W.aO (fun k σ=>∃(i:Nat),aQ σ [(0,aw fx l),(1,aw fx l),(12,ae l.length),(13,ae i)] fun rows clk=>i+k=l.length) l.length ?_ ?_
  ·exact⟨_, .refl,0,_,_,rfl,aa⟩
  rintro k _ ⟨i,rows,clk,rfl,qu⟩
  apply ef [0,1,12,13,14]<;>intro h
  ·have hi:i<l.length:=(by simp at h;omega);obtain⟨RL,k1⟩:=hz _ (bo hi);have hc:fx (nth l i) = [ae (nth l i).t.k,ae (nth l i).t.a,ae (nth l i).t.b,ae (nth l i).t.c,ae (nth l i).t.d,Po (nth l i).p,ae (nth l i).w]:=(by rw [fW,RL];rfl);have q1:=adM;apply lW [0,1,5,12,13]
   refine W.De (fun σ=>σ=⟨fa [(0,aw fx l),(1,aw fx l),(12,ae l.length),(13,ae i),(53, .bool false)],rows,clk⟩) (fun K hK=>?_) ?_
   ·simp (disch:=omega) [gw,hi,hc,q1,allI,jt];apply cT k1;apply (cp);exact hK _ _ (ak _ [0,1,12,13,53]) rfl
   rintro _ rfl
   apply (dI)<;>intro h
   ·simp at h
   ·apply W.skip;refine bB fun K hK=>?_;exact hK _ ⟨k-1,_,ak _ [0,1,12,13],aa,i+1,_,_,rfl,aa⟩
  ·exact rb [4]
def Xa(P:RE->List Int)(x:RE):CE:=⟨x.t,false,P x,x.w⟩
set_option maxHeartbeats 2000000 in
theorem O1{l:List RE}{P:RE->List Int}(hl:l.length<1048576)(hT:∀x∈l,aj 100 [.sl (Zs x.z x.q)] (Po (P x))):aj 36 [aw dr l] (aw fx (l.map (Xa P))):=by
 apply bL [(0,aw dr l)] Tryz.func36;apply eQ [0] [0,3];refine W.nil 3 3 82 7 av ar fun K hK=>?_;refine W.lw [0,3] hK ?_;clear hK K;simp;apply dU [0,3,6,7]
 refine W.aO (fun k σ=>∃(i v3:Nat),aQ σ [(0,aw dr l),(3, .own 3 v3 0 i),(6,ae l.length),(7,ae i)] fun rows clk=>i+k=l.length∧rows 3=some ⟨v3,82,7,emap fx ((l.take i).map (Xa P))⟩) l.length ?_ ?_
 ·exact⟨_, .refl,0,_,_,_,rfl,aa,by simp [emap]⟩
 rintro k _ ⟨i,v3,rows,clk,rfl,qu,bA⟩
 apply ef [0,3,6,7,8]<;>intro h
 ·have hi:i<l.length:=by simp at h;omega
  have yE:((l.take i).map (Xa P)).length=i:=by simp;omega
  have fI:(l.take (i+1)).map (Xa P)=(l.take i).map (Xa P) ++ [Xa P (nth l i)]:=by rw [bJ hi,take_succ_eq_append_getElem hi,map_append];rfl
  have hTi:=hT _ (bo hi);generalize (l.take i).map (Xa P)=S at *;apply lW [0,3,4,6,7];refine W.Dd fun K hK=>?_;simp (disch:=omega) [gw,bA,hi,gV,yE];apply cT hTi;simp (disch:=omega) [gw,bA,hi,gV,yE];refine aM (by intro p hp;rcases hp with (rfl | rfl | rfl | rfl | rfl | rfl) | rfl<;>simp [aF,ib,aL,aw]) ?_;simp (disch:=omega) [gw,bA,hi,gV,yE];refine hK _ ?_;clear hK K;refine bB fun K hK=>?_;refine hK _ ⟨k-1,_,ak _ [0,3,6,7],aa,i+1,_,_,_,rfl,aa,?_⟩;rw [fI];simp [emap,Xa,fW];rfl
 ·have hi:i=l.length:=by simp at h;omega
  subst hi;rw [take_length]at bA;apply (ey);refine W.freeze 3 (by simp [bA]) fun K hK=>?_;simp [bA];refine hK _ ?_;clear hK K;apply aR [2];apply W.ret;simp [go]
  try rw [take_of_length_le av]
end Go.Proofs.YtiobceocpabjdaaGreat
namespace Go.Proofs.YtiobceocpabjdaaGreat
open Go Pm List
open ZX hiding N W
variable {x:List Int}{c:List ZX}{an ad bn bd:Int}{A:A9}
def lcs(l:List Int):List PV:=[aw ay l]
theorem aa4(l:List Int):lcs l = [aw ay l]:=rfl
@[simp] theorem ahu{l:List (List Int)}:bC 1 (emap lcs l)=True:=cE fun _=>rfl
def reN(al:Nat->List Int)(w:Nat->Int)(i:Nat):RE:=⟨⟨5-(i:Int)%3,i,0,0,0⟩,false,emap ri (al i),w i,false,[],false⟩
def RX(al:Nat->List Int)(w:Nat->Int)(n:Nat):List RE:=(List.range n).map (reN al w)
theorem Xb(al:Nat->List Int)(w:Nat->Int)(n:Nat):RX al w (n+1)=RX al w n ++ [reN al w n]:=by simp [RX,range_succ]
theorem zP(al:Nat->List Int)(w:Nat->Int)(n:Nat):(RX al w n).length=n:=by simp [RX]
set_option maxHeartbeats 2000000 in
theorem RY{ps:List (List Int)}(hl:ps.length<9223372036854775808){al:Nat->List Int}{w:Nat->Int}
  (hM:∀i,i<ps.length->i<5->aj 114 [aw ay (nth ps i),ae 4] (PI (al i)))
  (hA:∀i,i<ps.length->i<5->aj 115 [PI (al i), .ag (eV x c an ad bn bd)] (ae (w i))) :
  aj 46 [aw lcs ps, .ag (eV x c an ad bn bd)] (aw dr (RX al w (min ps.length 5))):=by
 simp only [eV]at *;apply bL [(0,aw lcs ps),(1, .ag (eV x c an ad bn bd))] Tryz.func46;apply eQ [0,3] [0,3,5];refine W.nil 5 5 85 9 av ar fun K hK=>?_;refine W.lw [0,3,5] hK ?_;clear hK K;simp;apply dU [0,3,5,6]
 refine W.aO (fun k σ=>∃(i v3 v5:Nat),aQ σ [(0,aw lcs ps),(3, .ptr 3 v3 0 0),(5, .own 5 v5 0 i),(6,ae i)] fun rows clk=>i+k=min ps.length 5∧rows 3=some ⟨v3,49,10,[eV x c an ad bn bd]⟩∧rows 5=some ⟨v5,85,9,emap dr (RX al w i)⟩) (min ps.length 5) ?_ ?_
 ·exact⟨_,ak _ [0,3,5,6],0,_,_,_,_,rfl,aa,by simp [eV],by simp [RX,emap]⟩
 rintro k _ ⟨i,v3,v5,rows,clk,rfl,qu,bA,dj⟩;apply W.seq
 refine W.dx (fun σ=>∃(b:Bool),σ=⟨fa [(0,aw lcs ps),(3, .ptr 3 v3 0 0),(5, .own 5 v5 0 i),(6,ae i),(15, .bool b)],rows,clk⟩∧(b=true↔(i<ps.length∧i<5))) (fun K hK=>?_) ?_
 ·by_cases h1:i<ps.length
  ·apply dB h1;exact hK _ _ (ak _ [0,3,5,6,15]) ⟨_,rfl,by simp [h1];omega⟩
  ·apply dB h1;exact hK _ _ (ak _ [0,3,5,6,15]) ⟨_,rfl,by simp [h1]⟩
 rintro _ ⟨b,rfl,hbb⟩
 apply (dI)<;>intro h
 ·obtain⟨hi,h5⟩:=hbb.1 h;have m:=hM i hi h5;have a:=hA i hi h5;have hlen:=zP al w i;have fI:=Xb al w i;generalize hS':RX al w (i+1)=S',RX al w i=S at *;simp only [eV]at bA;apply (ft);apply W.sr;simp (disch:=omega) [gw,hi,aa4];apply cT m;apply bM [0,3,5,6,7];refine AD bA a fun K hK=>?_;apply fN dj hlen;refine aM (fun p hp=>by rcases hp with (h|h|h|h)|h|h|h<;>subst h<;>simp) ?_;apply fN dj hlen
  try (refine aM aa ?_;simp (disch:=omega) [gw,dj,hlen])
  refine W.lw [0,3,5,6] hK ?_;clear hK K;simp;refine bB fun K hK=>?_;refine hK _ ⟨k-1,_,ak _ [0,3,5,6],aa,i+1,_,_,_,_,rfl,aa,by simp [bA,eV],by rw [hS',fI];simp [emap,hlen,dr,reN,aw]⟩
 ·have hi:i=min ps.length 5:=by
   have:¬(i<ps.length∧i<5):=fun hh=>by rw [hbb.2 hh]at h;cases h
   omega
  subst hi;apply (ey);refine W.freeze 5 (by simp [dj]) fun K hK=>?_;simp [dj];rw [take_of_length_le (by rw [zP];omega)];refine hK _ ?_;clear hK K;exact dS [4]
theorem Jg{ps:List (List Int)}{t:A9}{l:List RE}{m:List CE}(h1:aj 20 [.ag (b9 t)] (.ag (eV x c an ad bn bd)))(h2:aj 46 [aw lcs ps, .ag (eV x c an ad bn bd)] (aw dr l))(h3:aj 36 [aw dr l] (aw fx m)) :
  aj 56 [.ag (b9 t), .rd [aw lcs ps]] (aw fx m):=by
 simp only [db,eV]at *;apply bL [(0, .ag [.sl t.y, .bool t.s, .sl t.d, .bool t.s', .sl t.d', .bool t.u, .sl t.e, .bool t.u', .sl t.e']),(1, .rd [aw lcs ps])] Tryz.func56;apply gr [1,2];apply jK h1;apply eO h2 h3;exact eK [3]
theorem yB(l:List Int):uL (made l 4):=by obtain⟨h1,h2⟩:=aaD l 4;have e1:3*9^4=19683:=ar;exact⟨(On l 4).1,⟨(BZ.adq (s:=18) (n:=5) (by show _<262144;omega) h2).mono (Nat.le_refl _) ar,ar,ar,ar⟩⟩
theorem szA:SzC S18 6 18 6:=⟨ar,ar,ar,ar,ar,ar,ar,ar⟩
noncomputable def mP(ps:List (List Int))(i:Nat):ZX:=made (nth ps i) 4
noncomputable def PL(ps:List (List Int)):List ZX:=(List.range (min ps.length 5)).map (mP ps)
noncomputable def wS(A:A9)(a:ZX):Int:=afU (bk (jI A).1 (ex (jI A).1 (jI A).2)) a
noncomputable def rA(ps:List (List Int))(A:A9):List RE:=RX (fun i=>(mP ps i).l) (fun i=>wS A (mP ps i)) (min ps.length 5)
noncomputable def cC(ps:List (List Int))(A:A9):List CE:=(List.range (min ps.length 5)).map fun(i:Nat)=>⟨⟨5-(i:Int)%3,(i:Int),0,0,0⟩,false,(mP ps i).l,wS A (mP ps i)⟩
theorem Xc(ps:List (List Int))(A:A9):(cC ps A).length<=5:=by simp [cC];omega
theorem ahw{ps:List (List Int)}{c:CE}(h:c∈cC ps A):c.z=false ∧ ∃a∈PL ps,c.p=a.l:=by obtain⟨i,hi,rfl⟩:=mem_map.1 h;exact⟨rfl,mP ps i,mem_map.2 ⟨i,hi,rfl⟩,rfl⟩
theorem sZ(h:NA A):aj 20 [.ag (b9 A)] (QA (jI A).1 (aH (jI A).1) (ex (jI A).1 (jI A).2)):=by obtain⟨⟨a,_⟩,e⟩:=et h;have:=a.I.ads a.q1 a.q2 ar;have e3:(.ag (b9 (gN (jI A))):PV)=GA (jI A).1 (jI A).2:=rfl;rw [e]at e3;rw [e3];exact this
section
variable {ps:List (List Int)} (hl:ps.length<9223372036854775808) (hb:∀l∈ps,(∀x∈l, -9223372036854775808<=x∧x<9223372036854775808)∧l.length<9223372036854775808) {A:A9} (hA:NA A)
include hl hb hA
theorem Xd:aj 46 [aw lcs ps,QA (jI A).1 (aH (jI A).1) (ex (jI A).1 (jI A).2)] (aw dr (rA ps A)):=
 RY (x:=(jI A).1.l) (c:=aH (jI A).1) hl (fun i hi _=>VU _ (hb _ (bo hi)).2 (hb _ (bo hi)).1 4 ar) fun i _ _=>(et hA).1.b.ahb szA (yB _).lay.bz (an5 _ _)
omit hl hb hA in
theorem aa5:aj 36 [aw dr (rA ps A)] (aw fx (cC ps A)):=by
 have:=O1 (l:=rA ps A) (P:=fun x=>(mP ps x.t.a.toNat).l) (by rw [rA,zP];omega) fun x hx=>by obtain⟨i,_,rfl⟩:=mem_map.1 hx;exact zF (yB _).lay.bz ar ar
 have e:(rA ps A).map (Xa fun x=>(mP ps x.t.a.toNat).l)=cC ps A:=by rw [rA,RX,cC,map_map];exact map_congr_left fun i _=>rfl
 rwa [e]at this
theorem ahx:aj 56 [.ag (b9 A), .rd [aw lcs ps]] (aw fx (cC ps A)):=Jg (sZ hA) (Xd hl hb hA) aa5
omit hl hb hA in
theorem adS:aj 35 [aw fx (cC ps A)] (aw fx (lh (cC ps A))):=
 xg (by have:=Xc ps A;omega) fun x hx=>by obtain⟨i,_,rfl⟩:=mem_map.1 hx;have bz:=(yB (nth ps i)).lay.bz;have nN:=dW (x:=(mP ps i).l) (bz.pb ar ar);rw [(mP ps i).c]at nN;exact nN
end
theorem Xe{l:List CE}{x:CE}(h:x∈lh l):∃y∈l,x=y.nz:=by
 suffices hs:∀(l S:List CE),x∈l.foldl (vK CE.t) S->x∈S∨x∈l by
  rcases hs _ _ h with h | h
  ·cases h
  ·obtain⟨y,hy,rfl⟩:=mem_map.1 h;exact⟨y,hy,rfl⟩
 intro l
 induction l with
 | nil=>intro S h;exact .inl h
 | cons a l ih =>
  intro S h
  rcases ih _ h with h | h
  ·simp only [vK,mem_append,mem_cons]at h
   rcases h with h | rfl | h
   ·exact .inl (mem_of_mem_take h)
   ·exact .inr av
   ·exact .inl (mem_of_mem_drop h)
  ·exact .inr (mem_cons_of_mem _ h)
theorem ahy{ps:List (List Int)}{c:CE}(h:c∈lh (cC ps A)):c.z=false ∧ ∃a∈PL ps,c.p=a.l:=by obtain⟨y,hy,rfl⟩:=Xe h;obtain⟨h1,a,ha,h2⟩:=ahw hy;exact⟨rfl,a,ha,by show y.v=a.l;unfold CE.v;rw [h1,if_neg ar];exact h2⟩
theorem adT{ps:List (List Int)}:∀a∈PL ps,uL a:=fun a ha=>by obtain⟨i,_,rfl⟩:=mem_map.1 ha;exact yB _
theorem ahz{ps:List (List Int)}:((PL ps).flatMap tO).length<=105:=by
 have h:∀(L:List ZX),(∀a∈L,uL a)->(L.flatMap tO).length<=21*L.length:=fun L=>by
  induction L with
  | nil=>intro _;simp
  | cons a L ih =>
   intro h;have h1:=ih fun b hb=>h b (mem_cons_of_mem _ hb);have h2:=(h a av).ahq;rw [flatMap_cons,length_append,length_cons];omega
 have h1:=h _ (adT (ps:=ps));have h2:(PL ps).length<=5:=by unfold PL;simp;omega
 omega
theorem at4{ps:List (List Int)}(hl:ps.length<9223372036854775808)(hb:∀l∈ps,(∀x∈l, -9223372036854775808<=x∧x<9223372036854775808)∧l.length<9223372036854775808){lo:A9}(pP:NA lo):Bld (PL ps) lo 56 [.rd [aw lcs ps]] (cC ps) (fun A=>lh (cC ps A)) where
 XT:=adT
 cer:=fun _ _ c hc=>ahy hc
 len:=fun A _=>by rw [Be];have:=Xc ps A;omega
 bld:=fun A hA=>ahx hl hb hA
 xY:=fun A _=>adS
 lo:=pP
 hw:=rfl
 hm:=rfl
 El:=rfl
def Gd(u:Rat):Prop:=SQ 5 u∧u.num.natAbs<=30∧((u.den:Int)).natAbs<=6
def uM(x:Rat):List (List PV):=[[aw ay (aI DD x.num.natAbs), .bool (decide (x.num<0)),aw ay (aI DD (x.den:Int).natAbs), .bool (decide ((x.den:Int)<0))]]
theorem at5{u:Nat}{x y:Rat}(hx:SQ u x)(hy:SQ u y)(hu:u<=1000000000):aj 14 [R2 x.num x.den,R2 y.num y.den] (ae (CO x y)):=by
 have h1:=ll x y (hx.yy hu) (hy.yy hu);rw [bW,bW]at h1
 have e:dc (x.num*y.den) (y.num*x.den)=CO x y:=by
  unfold CO
  by_cases h:x<y
  ·rw [if_pos h,kK (kZ.1 (fF.2 h))]
  ·rw [if_neg h]
   by_cases h':y<x
   ·rw [if_pos h',kN (k8.1 (fE.2 h'))]
   ·rw [if_neg h',j8.2 aG]
 rwa [e]at h1
end Go.Proofs.YtiobceocpabjdaaGreat
namespace Go.Proofs.YtiobceocpabjdaaGreat
open Go Pm List
theorem Jh{α β:Type}[Inhabited α][Inhabited β]{tg:α->Tg}{tg':β->Tg}{f:α->β}(hf:∀x,tg' (f x)=tg x){t:Tg}{l:List α}:∀k,k<=l.length->ua tg' t (l.map f) k=ua tg t l k
 | 0,_=>rfl
 | k+1,h=>by rw [oM,oM,Bc aa,hf,Jh hf k aa]
theorem Gg{α β:Type}[Inhabited α][Inhabited β]{tg:α->Tg}{tg':β->Tg}{f:α->β}(hf:∀x,tg' (f x)=tg x)(l:List α):(xY tg l).map f=xY tg' (l.map f):=by
 suffices h:∀(l S:List α),(l.foldl (vK tg) S).map f=(l.map f).foldl (vK tg') (S.map f)by simpa [xY]using h l []
 intro l
 induction l with
 | nil=>intro S;rfl
 | cons x l ih =>
  intro S;rw [foldl_cons,ih,map_cons,foldl_cons];congr 1;simp only [vK,length_map,hf,Jh hf S.length (Nat.le_refl _)];simp
end Go.Proofs.YtiobceocpabjdaaGreat
namespace Go.Proofs.YtiobceocpabjdaaGreat
open Go Pm List
open ZX hiding N W
variable {B C:A9}{a:ZX}{L:List WE}
noncomputable abbrev dV(A:A9):PV:=QA (jI A).1 (aH (jI A).1) (ex (jI A).1 (jI A).2)
theorem B4{A:A9}(hA:NA A)(hB:NA B):aj 48 [dV A,dV B] (ae (gZ A B)):=by obtain⟨⟨a0,a⟩,h⟩:=et hA;obtain⟨⟨b0,b⟩,h'⟩:=et hB;have:=a.atQ b cp2 ar ar;rw [ka (mc a0.A).2 (mc b0.A).2]at this;exact this
theorem pJ{A:A9}:gZ A B<0 ↔ ∃t,cA A t∧¬cA B t:=WX
theorem zS{A:A9}(hA:NA A)(hB:NA B):gZ A B<0↔0<gZ B A:=aaR hA.up hB.up
theorem Xf{A:A9}(hA:NA A)(hB:NA B)(h1:gZ A B<0)(h2:gZ B C<0):gZ A C<0:=by
 obtain⟨t,t1,t2⟩:=pJ.1 h1;obtain⟨s,s1,s2⟩:=pJ.1 h2
 by_cases hts:t<=s
 ·exact pJ.2 ⟨s,hA.up _ _ t1 hts,s2⟩
 ·exact absurd (hB.up _ _ s1 aG) t2
theorem Mk(A:A9):¬gZ A A<0:=fun h=>by obtain⟨t,t1,t2⟩:=pJ.1 h;exact t2 t1
theorem aoh{A:A9}(h:gZ A C<0):gZ A B<0∨gZ B C<0:=by
 obtain⟨t,t1,t2⟩:=pJ.1 h
 by_cases hb:cA B t
 ·exact .inr (pJ.2 ⟨t,hb,t2⟩)
 ·exact .inl (pJ.2 ⟨t,t1,hb⟩)
theorem aa6{A:A9}(hA:NA A)(hB:NA B)(h:gZ A B=0)(t:Rat):cA A t↔cA B t:=by
 have h1:¬gZ A B<0:=aa;have h2:¬gZ B A<0:=by rw [zS hB hA];omega
 exact⟨fun ht=>Classical.byContradiction fun hb=>h1 (pJ.2 ⟨t,ht,hb⟩),fun ht=>Classical.byContradiction fun hb=>h2 (pJ.2 ⟨t,ht,hb⟩)⟩
theorem ahA{A:A9}(hA:NA A)(hB:NA B)(h1:¬gZ A B<0)(h2:¬gZ B A<0):gZ A B=0:=by have:=zS hB hA;omega
theorem O2:∀ {l:List A9} {x:A9},(∀y∈x::l,NA y) -> ∀y∈x::l,¬gZ y (CN gZ x l)<0
 | [],x,h,y,hy=>by rw [mem_singleton.1 hy];exact Mk x
 | z::l,x,h,y,hy=>by
  have e:CN gZ x (z::l)=CN gZ (if gZ z x<0 then z else x) l:=rfl;have hx:=h x av;have hz:=h z av
  have ih:=O2 (l:=l) (x:=if gZ z x<0 then z else x) (fun y hy=>by
   rcases mem_cons.1 hy with rfl | hy
   ·split<;>assumption
   ·exact h y (by simp [hy]))
  rw [e]
  by_cases hc:gZ z x<0
  ·rw [if_pos hc]at ih |-
   rcases mem_cons.1 hy with rfl | hy
   ·exact fun hh=>ih z av (Xf hz hx hc hh)
   ·rcases mem_cons.1 hy with rfl | hy
    ·exact ih _ av
    ·exact ih y (by simp [hy])
  ·rw [if_neg hc]at ih |-
   rcases mem_cons.1 hy with rfl | hy
   ·exact ih _ av
   ·rcases mem_cons.1 hy with rfl | hy
    ·intro hh
     rcases aoh (B:=x) hh with h1 | h1
     ·exact hc h1
     ·exact ih x av h1
    ·exact ih y (by simp [hy])
def bx(o:Nat->Bool)(c:Nat->Nat->Int):Nat->Option Nat
 | 0=>none
 | i+1=>if o i=true then(match bx o c i with | none=>some i | some j=>if c i j<0 then some i else some j)else bx o c i
section
variable {o:Nat->Bool} {c:Nat->Nat->Int}
theorem Gi:∀ {n},bx o c n=none -> ∀i,i<n->o i=false
 | n+1,h,i,hi=>by
  rw [bx]at h
  by_cases hn:o n=true
  ·rw [if_pos hn]at h;cases hb:bx o c n with
   | none=>rw [hb]at h;cases h
   | some j=>rw [hb]at h;simp only at h;split at h<;>cases h
  ·rw [if_neg hn]at h
   by_cases he:i=n
   ·subst he;simpa using hn
   ·exact Gi h i aa
theorem zT(ht:∀i j k,o i=true->o j=true->o k=true->c i j<0->c j k<0->c i k<0)(hi:∀i,¬c i i<0):∀ {n j},bx o c n=some j->j<n∧o j=true ∧ ∀i,i<n->o i=true->¬c i j<0
 | n+1,j,h=>by
  rw [bx]at h
  by_cases hn:o n=true
  ·rw [if_pos hn]at h;cases hb:bx o c n with
   | none =>
    rw [hb]at h;injection h with h
    subst h;refine⟨aa,hn,fun i wY NF=>?_⟩
    by_cases he:i=n
    ·subst he;exact hi _
    ·rw [Gi hb i aa]at NF;cases NF
   | some q =>
    rw [hb]at h;obtain⟨q1,q2,q3⟩:=zT ht hi hb;simp only at h
    by_cases hc:c n q<0
    ·rw [if_pos hc]at h;injection h with h
     subst h;refine⟨aa,hn,fun i wY NF hh=>?_⟩
     by_cases he:i=n
     ·subst he;exact hi _ hh
     ·exact q3 i aa NF (ht _ _ _ NF hn q2 hh hc)
    ·rw [if_neg hc]at h;injection h with h
     subst h;refine⟨aa,q2,fun i wY NF hh=>?_⟩
     by_cases he:i=n
     ·subst he;exact hc hh
     ·exact q3 i aa NF hh
  ·rw [if_neg hn]at h;obtain⟨q1,q2,q3⟩:=zT ht hi h;refine⟨aa,q2,fun i wY NF=>?_⟩
   by_cases he:i=n
   ·subst he;exact absurd NF hn
   ·exact q3 i aa NF
end
def tgJ(j:Nat):Tg:=⟨5-(j:Int)%3,j,0,0,0⟩
def JJ(m:Nat):List Nat:=xY tgJ (List.range m)
theorem Mm(m:Nat):(JJ m).length=m:=by rw [JJ,E7,length_range]
theorem aa8:∀m,m<6->xY tgJ (JJ m)=JJ m:=by decide
section
variable (ps:List (List Int)) (A:A9)
noncomputable def Xg(j:Nat):CE:=⟨tgJ j,false,(mP ps j).l,wS A (mP ps j)⟩
noncomputable def reJ(j:Nat):RE:=⟨tgJ j,false,emap ri (mP ps j).l,wS A (mP ps j),false,[],false⟩
noncomputable def weJ(j:Nat):WE:=⟨tgJ j,(mP ps j).l,wS A (mP ps j),true,(yA (mP ps j).l A).1,(yA (mP ps j).l A).2⟩
theorem aa9:yO (rA ps A)=(JJ (min ps.length 5)).map (reJ ps A):=by rw [JJ,Gg (tg:=tgJ) (tg':=RE.t) (f:=reJ ps A) (fun _=>rfl),yO,rA,RX,map_map];rfl
theorem aba:lh (cC ps A)=(JJ (min ps.length 5)).map (Xg ps A):=by rw [JJ,Gg (tg:=tgJ) (tg':=CE.t) (f:=Xg ps A) (fun _=>rfl),lh,cC,map_map];rfl
theorem abb:lh ((JJ (min ps.length 5)).map (Xg ps A))=(JJ (min ps.length 5)).map (Xg ps A):=by
 have h:=aa8 (min ps.length 5) aa
 conv=>rhs;rw [<-h]
 rw [Gg (tg:=tgJ) (tg':=CE.t) (f:=Xg ps A) (fun _=>rfl),lh,map_map];rfl
theorem at6:Jd A (((JJ (min ps.length 5)).map (Xg ps A)).map WE.new)=(JJ (min ps.length 5)).map (weJ ps A):=by rw [Jd,map_map,map_map];exact map_congr_left fun j _=>rfl
end
theorem xG{fq:Nat->ZX}{cq:Nat->List ZX}{L:Nat->List (Rat × Rat)}{l:List RE}{i:Nat}:∀n,(nth (iD fq cq L l n) i).t=(nth l i).t∧(nth (iD fq cq L l n) i).z=(nth l i).z∧(nth (iD fq cq L l n) i).q=(nth l i).q
 | 0=>⟨rfl,rfl,rfl⟩
 | n+1=>by
  rw [iD]
  by_cases hi:n=i
  ·subst hi
   by_cases hl:n<(iD fq cq L l n).length
   ·have e:nth ((iD fq cq L l n).set n (kH fq cq L n (nth l n))) n=kH fq cq L n (nth l n):=(by rw [nth,getElem?_set_self hl];rfl);rw [e];exact⟨rfl,rfl,rfl⟩
   ·rw [set_eq_of_length_le aa];exact xG n
  ·have e:nth ((iD fq cq L l n).set n (kH fq cq L n (nth l n))) i=nth (iD fq cq L l n) i:=(by rw [nth,getElem?_set_ne hi];rfl);rw [e];exact xG n
theorem uL.ahB(h:uL a):aj 119 [PI a.l] (aw (qa (fO a) (aH (fO a))) ((lO a).map (ex (fO a)))):=
 L3 (m:=[]) (te h.ne) (Q9 h.lay ar h.ne) (LV h.Mg.OE h.Mg.xD h.Mg h.Mg.s1)
theorem uL.dv(h:uL a){i:Nat}(hi:i<(lO a).length):QA (fO a) (aH (fO a)) (nth ((lO a).map (ex (fO a))) i)=dV (gN (fO a,nth (lO a) i))∧NA (gN (fO a,nth (lO a) i)):=by have hn:=h.nn (bo hi);rw [mW hi,dV,Mj hn];exact⟨rfl, .of hn⟩
theorem uL.nxk{A:A9}:(yA a.l A).1=decide (kx a A<(lO a).length)∧(kx a A<(lO a).length->(yA a.l A).2=gN (fO a,nth (lO a) (kx a A))):=by
 unfold yA;rw [aaX]
 by_cases hk:kx a A<(lO a).length
 ·rw [if_pos hk,decide_eq_true hk];exact⟨rfl,fun _=>rfl⟩
 ·rw [if_neg hk,decide_eq_false hk];exact⟨rfl,fun h=>absurd h hk⟩
theorem uL.aom(h:uL a){A:A9}(hA:NA A):(∀j,j<kx a A -> ∃z:Int,aj 48 [QA (fO a) (aH (fO a)) (nth ((lO a).map (ex (fO a))) j),dV A] (ae z)∧¬0<z) ∧
  (kx a A<(lO a).length -> ∃z:Int,aj 48 [QA (fO a) (aH (fO a)) (nth ((lO a).map (ex (fO a))) (kx a A)),dV A] (ae z)∧0<z):=by
 obtain⟨k1,k2,k3⟩:=pH a A
 refine⟨fun j hj=>?_,fun hk=>?_⟩
 ·obtain⟨e,hn⟩:=h.dv (i:=j) aa;rw [e];refine⟨_,B4 hn hA,?_⟩;rw [gZ,si (h.nn (bo aa))];exact k2 j hj
 ·obtain⟨e,hn⟩:=h.dv (i:=kx a A) hk;rw [e];refine⟨_,B4 hn hA,?_⟩;rw [gZ,si (h.nn (bo hk))];exact k3 hk
theorem O3:pI L=false ↔ ∀w∈L,w.o=false:=by
 unfold pI
 constructor
 ·intro h w hw;cases ho:w.o with
  | false=>rfl
  | true =>
   have:w.f∈wv L:=me.2 ⟨w,hw,ho,rfl⟩;cases e:wv L with
   | nil=>rw [e]at this;cases this
   | cons x l=>rw [e]at h;cases h
 ·intro h;cases e:wv L with
  | nil=>rfl
  | cons x l =>
   obtain⟨w,hw,ho,_⟩:=me.1 (show x∈wv L by rw [e];simp);rw [h w hw]at ho;cases ho
theorem abc(h:∀w∈L,w.o=true->NA w.f)(ho:pI L=true):NA (xF L) ∧ ∀w∈L,w.o=true->¬gZ w.f (xF L)<0:=by
 obtain⟨w0,hw0,ho0,e0⟩:=me.1 (zO ho);refine⟨e0▸h w0 hw0 ho0,fun w hw how=>?_⟩;have hm:w.f∈wv L:=me.2 ⟨w,hw,how,rfl⟩;have hN:∀y∈wv L,NA y:=fun y hy=>by obtain⟨v,hv,hov,e⟩:=me.1 hy;exact e▸h v hv hov
 unfold xF;cases e:wv L with
 | nil=>rw [e]at hm;cases hm
 | cons x l=>rw [e]at hm hN;exact O2 hN _ hm
theorem O4{n:Nat}(h1:n<=(lO a).length)(h2:∀i,i<n->¬0<cu (bk (fO a) (nth (lO a) i)) (cA B))(h3:n<(lO a).length->0<cu (bk (fO a) (nth (lO a) n)) (cA B)):kx a B=n:=by
 obtain⟨k1,k2,k3⟩:=pH a B
 rcases Nat.lt_trichotomy (kx a B) n with h | h | h
 ·exact absurd (k3 aa) (h2 _ h)
 ·exact h
 ·exact absurd (h3 aa) (k2 _ h)
theorem zU{A:A9}(hA:NA A)(hB:NA B)(h:gZ A B=0):cA A=cA B:=funext fun t=>propext (aa6 hA hB h t)
theorem Xh{p:List Int}{A:A9}(h:cA A=cA B):yA p A=yA p B:=by obtain⟨k1,k2,k3⟩:=pH (of p) B;have e:kx (of p) A=kx (of p) B:=O4 k1 (by rw [h];exact k2) (by rw [h];exact k3);unfold yA;rw [e]
theorem O5{A:A9}(hA:NA A)(hB:NA B)(h:cA A=cA B)(a:ZX):wS A a=wS B a:=by obtain⟨⟨a0,_⟩,_⟩:=et hA;obtain⟨⟨b0,_⟩,_⟩:=et hB;unfold wS;have e:bk (jI A).1 (ex (jI A).1 (jI A).2)=bk (jI B).1 (ex (jI B).1 (jI B).2):=funext fun t=>propext (by rw [(mc a0.A).2 t,(mc b0.A).2 t];show cA A t↔cA B t;rw [h]);rw [e]
theorem Xi(h:uL a){A:A9}(hA:NA A)(hB:NA B)(hle:¬0<gZ A B)(hk:(yA a.l A).1=true->0<gZ (yA a.l A).2 B):yA a.l B=yA a.l A:=by
 obtain⟨k1,k2,k3⟩:=pH a A
 have e:kx a B=kx a A:=O4 k1 (fun i hi hh=>by
  have hn:=h.nn (bo (show i<(lO a).length by omega));have hN:NA (gN (fO a,nth (lO a) i)):=.of hn;rw [<-si hn]at hh;obtain⟨t,t1,t2⟩:=(uG hN hB).1 hh;refine k2 i hi ?_;rw [<-si hn];refine(uG hN hA).2 ⟨t,?_,t2⟩;exact Classical.byContradiction fun t3=>hle ((uG hA hB).2 ⟨t,t1,t3⟩)) (fun hl=>by
  have e2:=(uL.nxk (a:=a) (A:=A)).1;rw [decide_eq_true hl]at e2;have:=hk e2;rw [(uL.nxk (a:=a) (A:=A)).2 hl]at this;rw [<-si (h.nn (bo hl))];exact this)
 unfold yA;rw [aaX,e]
theorem O6(x:CE)(sm:WE->Bool)(c:WE->Int):∀L,Jv x sm c L=WE.new x ∨ ∃w∈L,w.k=true∧sm w=true∧(w.o=true->0<c w)∧Jv x sm c L=⟨x.t,x.p,x.w,true,w.o,w.f⟩
 | [] => .inl rfl
 | w::l=>by
  rw [Jv]
  split
  ·rename_i h;simp only [Bool.and_eq_true,Bool.or_eq_true,decide_eq_true_eq,Bool.not_eq_true']at h;obtain⟨⟨⟨_,h2⟩,h3⟩,h4⟩:=h;refine .inr ⟨w,av,h2,h3,fun ho=>?_,rfl⟩
   rcases h4 with h4 | h4
   ·rw [ho]at h4;cases h4
   ·exact h4
  ·rcases O6 x sm c l with h | ⟨y,hy,h⟩
   ·exact .inl h
   ·exact .inr ⟨y,by simp [hy],h⟩
section
variable {PL:List ZX} {lo:A9} {g:FuncId} {bF:List PV} {C B:A9->List CE} (D:Bld PL lo g bF C B)
include D
theorem Ji:∀i,(∀j,j<i->pI (lL B lo j)=true)->lL B lo i=Jd (wB B lo i).1 ((B (wB B lo i).1).map WE.new)
 | 0,_=>rfl
 | i+1,h=>by
  have ih:=Ji i fun j hj=>h j aa;have h1:=(nS D i fun j hj=>h j aa).1;have h2:=OZ D i (fun j hj=>h j aa) (h i aa);have h3:=B2 D i (fun j hj=>h j aa) (h i aa);have hle:¬0<gZ (wB B lo i).1 (xF (lL B lo i)):=fun hh=>by have:=(zS h2 h1).2 hh;omega
  have e:∀j,lL B lo j=Jd (wB B lo j).1 (wB B lo j).2:=fun _=>rfl;rw [e (i+1),BX];simp only;generalize xF (lL B lo i)=a at *;rw [lyL,Jd,Jd,map_map,map_map];refine map_congr_left fun s hs=>?_;simp only [Function.comp]
  rcases O6 s (fun w=>decide (w.p=s.p)) (fun w=>gZ w.f a) (lL B lo i)with hk | ⟨w,hw,k1,k2,k3,hk⟩
  ·rw [hk]
  ·rw [hk,yS,yS,if_pos rfl,if_neg (by simp [WE.new])];rw [ih]at hw;obtain⟨y,hy,rfl⟩:=mem_map.1 hw;obtain⟨c,_,rfl⟩:=mem_map.1 hy;rw [yS,if_neg (by simp [WE.new])]at k1 k2 k3 |-;have hp:c.p=s.p:=of_decide_eq_true k2;obtain⟨_,z,hz,mr⟩:=D.cer _ h2 s hs;have hke:=Xi (D.XT z hz) h1 h2 hle (by rw [<-mr,<-hp];exact k3);simp only [WE.new];rw [hp,mr,hke]
end
section
variable (ps:List (List Int))
noncomputable abbrev mS:Nat:=min ps.length 5
noncomputable def sR(E:A9):List RE:=(JJ (mS ps)).map (reJ ps E)
noncomputable def sC(E:A9):List CE:=(JJ (mS ps)).map (Xg ps E)
noncomputable def sW(E:A9):List WE:=(JJ (mS ps)).map (weJ ps E)
end
theorem O7{ps:List (List Int)}{A:A9}(hA:NA A)(hB:NA B)(h:gZ A B=0):sW ps A=sW ps B:=by have e:=zU hA hB h;unfold sW;refine map_congr_left fun j _=>?_;unfold weJ;rw [O5 hA hB e,Xh e]
theorem abd{ps:List (List Int)}{A:A9}(hA:NA A)(hB:NA B)(h:gZ A B=0):sC ps A=sC ps B:=by have e:=zU hA hB h;unfold sC;refine map_congr_left fun j _=>?_;unfold Xg;rw [O5 hA hB e]
theorem Mn{fq:Nat->ZX}{cq:Nat->List ZX}{L:Nat->List (Rat × Rat)}{l:List RE}{i:Nat}:∀n,(nth (iD fq cq L l n) i).w=(nth l i).w
 | 0=>rfl
 | n+1=>by
  rw [iD]
  by_cases hi:n=i
  ·subst hi
   by_cases hl:n<(iD fq cq L l n).length
   ·have e:nth ((iD fq cq L l n).set n (kH fq cq L n (nth l n))) n=kH fq cq L n (nth l n):=(by rw [nth,getElem?_set_self hl];rfl);rw [e];rfl
   ·rw [set_eq_of_length_le aa];exact Mn n
  ·have e:nth ((iD fq cq L l n).set n (kH fq cq L n (nth l n))) i=nth (iD fq cq L l n) i:=(by rw [nth,getElem?_set_ne hi];rfl);rw [e];exact Mn n
theorem Mp(ps:List (List Int)){A:A9}(hA:NA A) :
  ∃(S':List RE) (e:A9),S'.length=(sR ps A).length∧aj 36 [aw dr S'] (aw fx (sC ps A)) ∧
   wT env.P 50 (some (0,(sR ps A).length)) [dV A] 85 9 (emap dr (sR ps A)) (emap dr S') (.cW [if pI (sW ps A)=true then dV e else .ag I3, .bool (pI (sW ps A))]) ∧
   (pI (sW ps A)=true->NA e∧gZ e (xF (sW ps A))=0):=by
 obtain⟨m,hm⟩:∃m,m=min ps.length 5:=⟨_,rfl⟩
 have m5:m<=5:=aa;have hJ:=Mm m;obtain⟨S,hS⟩:∃S,S=(JJ m).map (reJ ps A):=⟨_,rfl⟩
 obtain⟨M,hM⟩:∃M,M=(JJ m).map (weJ ps A):=⟨_,rfl⟩
 have eS:sR ps A=S:=by rw [hS,hm];rfl
 have eM:sW ps A=M:=by rw [hM,hm];rfl
 have eC:sC ps A=(JJ m).map (Xg ps A):=by rw [hm];rfl
 rw [eS,eM,eC];have Sl:S.length=m:=by rw [hS,length_map,hJ]
 have Ml:M.length=m:=by rw [hM,length_map,hJ]
 obtain⟨a,ha⟩:∃a:Nat->ZX,a=fun i=>mP ps (nth (JJ m) i):=⟨_,rfl⟩
 have aok:∀i,uL (a i):=fun i=>by rw [ha];exact yB _
 obtain⟨o,ho⟩:∃o:Nat->Bool,o=fun i=>(yA (a i).l A).1:=⟨_,rfl⟩
 obtain⟨e,he⟩:∃e:Nat->A9,e=fun i=>(yA (a i).l A).2:=⟨_,rfl⟩
 have tq:∀i,o i=(yA (a i).l A).1:=fun i=>by rw [ho]
 have oU:∀i,e i=(yA (a i).l A).2:=fun i=>by rw [he]
 have Si:∀i,i<m->nth S i=reJ ps A (nth (JJ m) i):=fun i hi=>by rw [hS,mW aa]
 have Mi:∀i,i<m->nth M i=weJ ps A (nth (JJ m) i):=fun i hi=>by rw [hM,mW aa]
 have Mo:∀i,i<m->(nth M i).o=o i∧(nth M i).f=e i:=fun i hi=>by rw [Mi i hi,ho,he,ha];exact⟨rfl,rfl⟩
 have eN:∀i,o i=true->NA (e i):=fun i h=>by rw [tq]at h;rw [oU];exact((aok i).nx h).1
 have vq:∀i,o i=true->kx (a i) A<(lO (a i)).length∧QA (fO (a i)) (aH (fO (a i))) (nth ((lO (a i)).map (ex (fO (a i)))) (kx (a i) A))=dV (e i):=fun i h=>by rw [tq,(uL.nxk (a:=a i) (A:=A)).1]at h;have hk:=of_decide_eq_true h;refine⟨hk,?_⟩;rw [oU,(uL.nxk (a:=a i) (A:=A)).2 hk];exact((aok i).dv hk).1
 have ok':∀i,o i=decide (kx (a i) A<(lO (a i)).length):=fun i=>by rw [tq,(uL.nxk (a:=a i) (A:=A)).1]
 have hlO:∀i,((lO (a i)).map (ex (fO (a i)))).length=(lO (a i)).length:=fun i=>length_map _;have at8:∀i,(lO (a i)).length<=21:=fun i=>wk (aok i).Mg;have lA:∀i,i<m->nth M i∈M:=fun i hi=>bo aa
 have U0:=
  I5 (l:=S) (y:=(jI A).1.l) (d:=aH (jI A).1) (an:=(ex (jI A).1 (jI A).2).1.num) (ad:=(ex (jI A).1 (jI A).2).1.den) (bn:=(ex (jI A).1 (jI A).2).2.num) (bd:=(ex (jI A).1 (jI A).2).2.den)
   (fq:=fun i=>fO (a i)) (cq:=fun i=>aH (fO (a i))) (L:=fun i=>(lO (a i)).map (ex (fO (a i)))) (k:=fun i=>kx (a i) A) (B:=bx o fun i j=>gZ (e i) (e j)) aa
   (fun i hi _=>by rw [Si i aa];have:=(aok i).ahB;rw [ha]at this |-;exact this)
   (fun i hi h=>by rw [Si i aa]at h;cases h)
   (fun i=>by rw [hlO];have:=at8 i;omega) (fun i=>by rw [hlO];exact(pH (a i) A).1)
   (fun i _ j hj=>((aok i).aom hA).1 j hj) (fun i _ h=>((aok i).aom hA).2 (by rw [hlO]at h;exact h)) rfl
   (fun i _ h=>by have h0:¬o i=true:=(by rw [ok',decide_eq_true_eq];rw [hlO]at h;omega);rw [bx,if_neg h0])
   (fun i _ h hbn=>by have h0:o i=true:=(by rw [ok',decide_eq_true_eq];rw [hlO]at h;exact h);rw [bx,if_pos h0,hbn])
   (fun i j _ h hbj=>by have h0:o i=true:=(by rw [ok',decide_eq_true_eq];rw [hlO]at h;exact h);have hj:=(zT (c:=fun i j=>gZ (e i) (e j)) (fun i j k hi hj _=>Xf (eN i hi) (eN j hj)) (fun i=>Mk _) hbj).2.1;refine⟨gZ (e i) (e j),?_,by rw [bx,if_pos h0,hbj]⟩;rw [(vq i h0).2,(vq j hj).2];exact B4 (eN i h0) (eN j hj))
 have hbs:=fun {n j} (h:bx o (fun i j=>gZ (e i) (e j)) n=some j)=>zT (c:=fun i j=>gZ (e i) (e j)) (fun i j k hi hj _=>Xf (eN i hi) (eN j hj)) (fun i=>Mk _) h
 have RZ:(bx o (fun i j=>gZ (e i) (e j)) S.length).isSome=pI M:=by
  cases hB:bx o (fun i j=>gZ (e i) (e j)) S.length with
  | none =>
   have h0:=Gi hB;refine(O3.2 fun w hw=>?_).symm;obtain⟨i,hi,rfl⟩:=getElem_of_mem hw;rw [<-bJ hi,(Mo i aa).1];exact h0 i aa
  | some b =>
   obtain⟨b1,b2,_⟩:=hbs hB;cases ec:pI M with
   | true=>rfl
   | false =>
    have h0:=O3.1 ec _ (lA b aa);rw [(Mo b aa).1,b2]at h0;cases h0
 have hS':=mX (fq:=fun i=>fO (a i)) (cq:=fun i=>aH (fO (a i))) (L:=fun i=>(lO (a i)).map (ex (fO (a i)))) (l:=S) S.length;have Jn:=fun i=>xG (fq:=fun i=>fO (a i)) (cq:=fun i=>aH (fO (a i))) (L:=fun i=>(lO (a i)).map (ex (fO (a i)))) (l:=S) (i:=i) S.length;have hfw:=fun i=>Mn (fq:=fun i=>fO (a i)) (cq:=fun i=>aH (fO (a i))) (L:=fun i=>(lO (a i)).map (ex (fO (a i)))) (l:=S) (i:=i) S.length;rw [RZ]at U0;generalize iD (fun i=>fO (a i)) (fun i=>aH (fO (a i))) (fun i=>(lO (a i)).map (ex (fO (a i)))) S S.length=S' at *;have hAt:∀i,i<m->(nth S' i).t=tgJ (nth (JJ m) i)∧(nth S' i).z=false∧(nth S' i).q=emap ri (mP ps (nth (JJ m) i)).l∧(nth S' i).w=wS A (mP ps (nth (JJ m) i)):=fun i hi=>by obtain⟨q1,q2,q3⟩:=Jn i;rw [q1,q2,q3,hfw i,Si i hi];exact⟨rfl,rfl,rfl,rfl⟩
 have O8:aj 36 [aw dr S'] (aw fx ((JJ m).map (Xg ps A))):=by
  have:=O1 (l:=S') (P:=fun x=>(mP ps x.t.a.toNat).l) aa fun x hx=>by obtain⟨i,hi,rfl⟩:=getElem_of_mem hx;rw [<-bJ hi];obtain⟨q1,q2,q3,q4⟩:=hAt i aa;rw [q1,q2,q3];exact zF (yB _).lay.bz ar ar
  have e1:S'.map (Xa fun x=>(mP ps x.t.a.toNat).l)=(JJ m).map (Xg ps A):=by refine ext_getElem (by rw [length_map,length_map];omega) fun i h1 h2=>?_;rw [getElem_map,getElem_map];rw [length_map]at h1 h2;rw [<-bJ h1,<-bJ h2];obtain⟨q1,q2,q3,q4⟩:=hAt i aa;show(⟨(nth S' i).t,false,(mP ps (nth S' i).t.a.toNat).l,(nth S' i).w⟩:CE)=_;rw [q1,q4];rfl
  rwa [e1]at this
 cases ec:pI M with
 | false =>
  rw [ec]at U0 RZ
  have hB:bx o (fun i j=>gZ (e i) (e j)) S.length=none:=by
   cases hB:bx o (fun i j=>gZ (e i) (e j)) S.length with
   | none=>rfl
   | some b=>rw [hB]at RZ;cases RZ
  rw [hB]at U0;exact⟨S',A,hS',O8,U0,fun h=>by cases h⟩
 | true =>
  rw [ec]at U0 RZ;have Et:=abc (L:=M) (fun w hw how=>by obtain⟨i,hi,rfl⟩:=getElem_of_mem hw;rw [<-bJ hi]at how |-;rw [(Mo i aa).1]at how;rw [(Mo i aa).2];exact eN i how) ec;obtain⟨b,hB⟩:∃b,bx o (fun i j=>gZ (e i) (e j)) S.length=some b:=Option.isSome_iff_exists.1 RZ;obtain⟨b1,b2,b3⟩:=hbs hB;rw [hB]at U0
  have hz:gZ (e b) (xF M)=0:=ahA (eN b b2) Et.1 (by
   have:=Et.2 _ (lA b aa) (by rw [(Mo b aa).1];exact b2);rwa [(Mo b aa).2]at this) (by
   obtain⟨w,hw,how,hf⟩:=me.1 (zO ec);obtain⟨i,hi,rfl⟩:=getElem_of_mem hw;rw [<-bJ hi]at how hf;rw [(Mo i aa).1]at how;rw [(Mo i aa).2]at hf;rw [<-hf];exact b3 i aa how)
  refine⟨S',e b,hS',O8,?_,fun _=>⟨eN b b2,hz⟩⟩;have hxv:OR (fun i=>fO (a i)) (fun i=>aH (fO (a i))) (fun i=>(lO (a i)).map (ex (fO (a i)))) (fun i=>kx (a i) A) (some b)=dV (e b):=(vq b b2).2;rw [hxv]at U0;exact U0
end Go.Proofs.YtiobceocpabjdaaGreat
namespace Go.Proofs.YtiobceocpabjdaaGreat
open Go Pm List
variable {idB verB j ver n clk i clk0 idT verT idP verP:Nat}{X:List Nat}{rows rows' rows0:Pm.Rows}{e:TypeId}{ds:List (Nat × Nat)}{s s':Bool}{d d':List (List PV)}
section
variable {ps:List (List Int)} {t:A9} {l:List RE} {m:List CE} {x:List Int} {c:List ZX} {an ad bn bd:Int} (h1:aj 20 [.ag (b9 t)] (.ag (eV x c an ad bn bd))) (h2:aj 46 [aw lcs ps, .ag (eV x c an ad bn bd)] (aw dr l)) (h3:aj 36 [aw dr l] (aw fx m))
 {idT verT idP verP:Nat} {rows0:Pm.Rows} {clk0:Nat} (hP:rows0 (idP+1000000)=some ⟨verP,102,1,[[aw lcs ps]]⟩) (Jw:idP≠idT)
include h1 h2 h3 hP Jw
theorem Mq(hT:rows0 (idT+1000000)=some ⟨verT,83,1,[[.nil]]⟩) :
  nV env.P 55 [.ag (b9 t), .ptr (idT+1000000) verT 0 0, .ptr (idP+1000000) verP 0 0] rows0 clk0 (fun r rows' _=>r=aw fx m ∧ ∃v,clk0<=v ∧
   rows' (idT+1000000)=some ⟨verT,83,1,[[.own 9 v 0 1]]⟩∧rows' 9=some ⟨v,49,10,[eV x c an ad bn bd]⟩ ∧ ∀j,j≠idT->rows' (j+1000000)=rows0 (j+1000000)):=by
 simp only [db,eV]at *;refine mH (E:=env) (fun _=>0) [(0, .ag [.sl t.y, .bool t.s, .sl t.d, .bool t.s', .sl t.d', .bool t.u, .sl t.e, .bool t.u', .sl t.e']),(1, .ptr (idT+1000000) verT 0 0),(2, .ptr (idP+1000000) verP 0 0)] Tryz.func55 rfl bX bX (show 3<=15 by decide) av ?_;apply gr [1,2,3];apply iI hT h1;apply dB hT;rw [if_pos bX];apply dB hT
 (try (refine aM (of_decide_eq_true bX) ?_));(try simp (maxSteps:=4000000) (disch:=omega) [gw,hT]);(repeat rw [if_pos bX]);(try simp (maxSteps:=4000000) (disch:=omega) [gw,hT])
 apply c9 [2,3];apply W.sd;apply iS hP Jw h1;apply eO h2 h3;apply bM [4];apply W.ret;simp [go,x7,gU,kW];exact⟨_,Nat.le_succ _,rfl,fun j hj h=>absurd h hj⟩
theorem Mr{N:List (List PV)}(hT:rows0 (idT+1000000)=some ⟨verT,83,1,[[.own (idB+1000000) verB 0 N.length]]⟩)(hB:rows0 (idB+1000000)=some ⟨verB,49,10,N⟩)(hBT:idB≠idT)(hBP:idB≠idP)(hN:N.length<1000000) :
  nV env.P 55 [.ag (b9 t), .ptr (idT+1000000) verT 0 0, .ptr (idP+1000000) verP 0 0] rows0 clk0 (fun r rows' _=>r=aw fx m ∧ ∃v,clk0<=v ∧
   rows' (idT+1000000)=some ⟨verT,83,1,[[.own (idB+1000000) v 0 (N.length+1)]]⟩∧rows' (idB+1000000)=some ⟨v,49,10,N ++ [eV x c an ad bn bd]⟩ ∧ ∀j,j≠idT->j≠idB->rows' (j+1000000)=rows0 (j+1000000)):=by
 simp only [db,eV]at *;refine mH (E:=env) (fun _=>0) [(0, .ag [.sl t.y, .bool t.s, .sl t.d, .bool t.s', .sl t.d', .bool t.u, .sl t.e, .bool t.u', .sl t.e']),(1, .ptr (idT+1000000) verT 0 0),(2, .ptr (idP+1000000) verP 0 0)] Tryz.func55 rfl bX bX (show 3<=15 by decide) av ?_;have hTB:¬idT=idB:=fun h=>hBT h.symm;have hPB:¬idP=idB:=fun h=>hBP h.symm;apply gr [1,2,3];apply EV hT hB hTB hBT;apply cT h1;apply EV hT hB hTB hBT;rw [if_pos bX];apply EV hT hB hTB hBT
 (try (refine aM (of_decide_eq_true bX) ?_));(try simp (maxSteps:=4000000) (disch:=omega) [gw,hT,hB,hTB,hBT]);(repeat rw [if_pos bX]);(try simp (maxSteps:=4000000) (disch:=omega) [gw,hT,hB,hTB,hBT])
 apply c9 [2,3];apply W.sd;apply ra hP Jw hPB h1;apply eO h2 h3;apply bM [4];apply W.ret;simp [go,x7,gU,kW,hTB,hBT];exact⟨_,Nat.le_succ _,rfl,fun j h1 h2=>by simp [h1,h2]⟩
end
theorem B5{x:List Int}{c:List ZX}{an ad bn bd:Int}:∀p∈eV x c an ad bn bd,aF p=true:=fun p hp=>all_eq_true.1 (show (eV x c an ad bn bd).all aF=true from rfl) p hp
def Kpd(X:List Nat)(rows rows':Pm.Rows):Prop:=∀j,j ∉ X -> ∀ver e n els,(∀l∈els,∀p∈l,aF p=true)->rows j=some ⟨ver,e,n,els⟩->rows' j=some ⟨ver,e,n,els⟩
theorem Kpd.get(h:Kpd X rows rows'){els:List (List PV)}(hr:rows j=some ⟨ver,e,n,els⟩)(hp:∀l∈els,∀p∈l,aF p=true)(hj:j ∉ X):rows' j=some ⟨ver,e,n,els⟩:=h j hj _ _ _ _ hp hr
theorem O9(hd:∀q∈ds,q.2∈X)(h:∀j,j ∉ X->rows0 (j+eI)=mG eI rows (j+eI)):Kpd X rows (oa (nwR ds) (Zx ds) rows0):=fun j hj ver e n els hp hr=>by refine ub hp ?_;rw [kQ fun q hq he=>hj (by rw [<-he];exact hd q hq),h j hj];exact uc hp hr
theorem Jj{P:Program}{f:FuncId}{args:List PV}{R:PV->Pm.Rows->Nat->Prop}(h:nV P f args rows clk R):nV P f args rows clk (fun r rows' bV=>(∃c,R r rows' c)∧clk<=bV):=by refine⟨h.1,fun w0 S0 c vs G hI gq eB ha hG=>(h.2 w0 S0 c vs G hI gq eB ha hG).mono ?_⟩;rintro e w' ⟨v,c',r,bV,h1,h2,h3,h4,h5,h6,h7⟩;exact⟨v,c',r,max clk bV,h1,h2,h3,h4,⟨⟨_,h5⟩,Nat.le_max_left _ _⟩,fun v hv=>Nat.lt_of_lt_of_le (h6 v hv) (Nat.le_max_right _ _),h7⟩
theorem adU(j:Nat):Zx [] j=j+1000000:=kQ (k:=eI) av
theorem aon(j:Nat):nwR [] (j+1000000)=some j:=NB (k:=eI) av
theorem abf{ρ:Nat->Option Nat}{id off len:Nat}(h:ρ id=some j):Gt ρ (.own id ver off len) = .own j ver off len:=by simp only [Gt,h]
theorem Xj{v o l:Nat}(h:rows0 (j+1000000)=some ⟨ver,e,n,[[.own (i+1000000) v o l]]⟩):oa (nwR []) (Zx []) rows0 j=some ⟨ver,e,n,[[.own i v o l]]⟩:=by unfold oa;rw [adU,h];simp only [Option.map_some,p8,map_cons,map_nil,abf (aon i)]
section
variable {ps:List (List Int)} {t:A9} {l:List RE} {m:List CE} {x:List Int} {c:List ZX} {an ad bn bd:Int} (h1:aj 20 [.ag (b9 t)] (.ag (eV x c an ad bn bd))) (h2:aj 46 [aw lcs ps, .ag (eV x c an ad bn bd)] (aw dr l)) (h3:aj 36 [aw dr l] (aw fx m))
 {idT verT idP verP:Nat} {rows:Pm.Rows} {clk:Nat} {K:PV->Pm.Rows->Nat->Prop} (hP:rows idP=some ⟨verP,102,1,[[aw lcs ps]]⟩) (Jw:idP≠idT)
include h1 h2 h3 hP Jw
omit h1 h2 h3 hP Jw in
theorem Ef:[PV.ag (b9 t), .ptr idT verT 0 0, .ptr idP verP 0 0].map (GG eI) = [.ag (b9 t), .ptr (idT+1000000) verT 0 0, .ptr (idP+1000000) verP 0 0]:=by simp [GG,pQ,db,eI]
theorem Ms(NM:Nat)(hN:NM<1000000)(hNT:NM≠idT)(hNP:NM≠idP)(hT:rows idT=some ⟨verT,83,1,[[.nil]]⟩)
  (hK:∀rows' bV v,clk<=bV->clk<=v->rows' idT=some ⟨verT,83,1,[[.own NM v 0 1]]⟩->rows' NM=some ⟨v,49,10,[eV x c an ad bn bd]⟩->Kpd [idT,NM] rows rows'->go (K (aw fx m) rows' bV)) :
  jQ env.P 55 [.ag (b9 t), .ptr idT verT 0 0, .ptr idP verP 0 0] rows clk K:=by
 have yW:Zy [(9,NM)]:=⟨by simp [eI],av,av⟩
 have hG:=Mq (idT:=idT) (verT:=verT) (idP:=idP) (verP:=verP) (rows0:=mG eI rows) (clk0:=clk) h1 h2 h3 (uc (k:=eI) (by simp [aw,aF]) hP) Jw (by rw [show idT+1000000=idT+eI from rfl,Fa,hT];rfl);rw [<-Ef]at hG
 refine UO [(9,NM)] yW (Jj hG) ?_ ?_
 ·rintro p hp r0 rows0 bV ⟨⟨_,_,v,hv,_,h9,_⟩,_⟩ r hr;obtain rfl:=mem_singleton.1 hp;rw [h9]at hr;obtain rfl:=Option.some.inj hr;exact hv
 ·rintro r0 rows0 bV ⟨⟨_,rfl,v,hv,Cf,h9,eJ⟩,eB⟩
  refine hK _ _ v eB hv ?_ ?_ (O9 av fun j hj=>eJ j fun he=>hj (by simp [he]))
  ·show(rows0 (Zx [(9,NM)] idT)).map _=_;rw [Zx,kQ (au hNT),show idT+eI=idT+1000000 from rfl,Cf];simp only [Option.map_some,p8,map_cons,map_nil,Gt];rw [show nwR [(9,NM)] 9=some NM from KX yW (p:=(9,NM)) av]
  ·refine ub (fun l hl=>by rw [mem_singleton.1 hl];exact B5) ?_;rw [show rH eI [(9,NM)] NM=9 from xk yW (p:=(9,NM)) av];exact h9
theorem Mt{N:List (List PV)}(hB9:∀l∈N,∀p∈l,aF p=true)(hT:rows idT=some ⟨verT,83,1,[[.own idB verB 0 N.length]]⟩)(hB:rows idB=some ⟨verB,49,10,N⟩)(hBT:idB≠idT)(hBP:idB≠idP)(hN:N.length<1000000)
  (hK:∀rows' bV v,clk<=bV->clk<=v->rows' idT=some ⟨verT,83,1,[[.own idB v 0 (N.length+1)]]⟩->rows' idB=some ⟨v,49,10,N ++ [eV x c an ad bn bd]⟩->Kpd [idT,idB] rows rows'->go (K (aw fx m) rows' bV)) :
  jQ env.P 55 [.ag (b9 t), .ptr idT verT 0 0, .ptr idP verP 0 0] rows clk K:=by
 have hBG:eI=1000000:=rfl;have hG:=Mr (idT:=idT) (verT:=verT) (idP:=idP) (verP:=verP) (idB:=idB) (verB:=verB) (N:=N) (rows0:=mG eI rows) (clk0:=clk) h1 h2 h3 (uc (k:=eI) (by simp [aw,aF]) hP) Jw (by rw [<-hBG,Fa,hT];simp [jP,pQ,hBG]) (uc (k:=eI) hB9 hB) hBT hBP hN;rw [<-Ef]at hG;refine UO [] UP (Jj hG) (fun p hp=>by cases hp) ?_;rintro r0 rows0 bV ⟨⟨_,rfl,v,hv,Cf,h9,eJ⟩,eB⟩
 refine hK _ _ v eB hv ?_ ?_ (O9 av fun j hj=>eJ j (fun he=>hj (by simp [he])) (fun he=>hj (by simp [he])))
 ·exact Xj Cf
 ·refine ub (fun l hl p hp=>?_) ?_
  ·rcases mem_append.1 hl with h | h
   ·exact hB9 l h p hp
   ·rw [mem_singleton.1 h]at hp;exact B5 p hp
  ·rw [show rH eI [] idB=idB+1000000 from adU idB];exact h9
end
structure QN where
 x:List Int
 c:List ZX
 an:Int
 ad:Int
 bn:Int
 bd:Int
variable {q:QN}
instance:Inhabited QN:=⟨⟨[],[],0,0,0,0⟩⟩
def QN.v(q:QN):List PV:=eV q.x q.c q.an q.ad q.bn q.bd
@[simp] theorem QN.sj:q.v=eV q.x q.c q.an q.ad q.bn q.bd:=rfl
theorem QN.cB(q:QN):∀p∈q.v,aF p=true:=B5
@[simp] theorem ajH{l:List QN}:bC 10 (emap QN.v l)=True:=cE fun _=>rfl
@[simp] theorem ahE{v e:Nat}{l:List QN}:da (some ⟨v,e,n,emap QN.v l⟩)=True:=ck fun _=>rfl
def TT(NM clk0 idT verT:Nat)(N:List (List PV))(rows:Pm.Rows):Prop:=
 (N = []∧rows idT=some ⟨verT,83,1,[[.nil]]⟩∧rows NM=none)∨(N ≠ [] ∧ ∃v,clk0<=v∧rows idT=some ⟨verT,83,1,[[.own NM v 0 N.length]]⟩∧rows NM=some ⟨v,49,10,N⟩)
theorem TT.B6{NM:Nat}{N:List (List PV)}(h:TT NM clk0 idT verT N rows)(h1:rows' idT=rows idT)(h2:rows' NM=rows NM):TT NM clk0 idT verT N rows':=by unfold TT at *;rw [h1,h2];exact h
theorem R3{ps:List (List Int)}{t:A9}{l:List RE}{m:List CE}(h1:aj 20 [.ag (b9 t)] (.ag q.v))(h2:aj 46 [aw lcs ps, .ag q.v] (aw dr l))(h3:aj 36 [aw dr l] (aw fx m))
 {K:PV->Pm.Rows->Nat->Prop} (hP:rows idP=some ⟨verP,102,1,[[aw lcs ps]]⟩) (Jw:idP≠idT) {N:List (List PV)} (hc:clk0<=clk) (NM:Nat) (hNM:NM<1000000) (hNT:NM≠idT) (hNP:NM≠idP) (hp:∀l∈N,∀p∈l,aF p=true) (hN:N.length<1000000) (hT:TT NM clk0 idT verT N rows)
  (hK:∀rows' bV,clk0<=bV->TT NM clk0 idT verT (N ++ [q.v]) rows'->Kpd [idT,NM] rows rows'->go (K (aw fx m) rows' bV)) :
  jQ env.P 55 [.ag (b9 t), .ptr idT verT 0 0, .ptr idP verP 0 0] rows clk K:=by
 rcases hT with ⟨rfl,hT,_⟩ | ⟨NJ,v,hv,hT,hB⟩
 ·exact Ms h1 h2 h3 hP Jw NM hNM hNT hNP hT fun rows' bV v uP hv Cf Gm hk=>hK rows' bV (Nat.le_trans hc uP) (.inr ⟨av,v,Nat.le_trans hc hv,Cf,Gm⟩) hk
 ·exact Mt h1 h2 h3 hP Jw hp hT hB hNT hNP hN fun rows' bV v uP hv Cf Gm hk=>hK rows' bV (Nat.le_trans hc uP) (.inr ⟨av,v,Nat.le_trans hc hv,by rw [Cf];simp,Gm⟩) hk
def tmq(q:Nat->QN)(i:Nat):List QN:=(List.range i).map q
theorem Pa(q:Nat->QN){K:Nat}(h:i<K):nth (tmq q K) i=q i:=by rw [nth,tmq,getElem?_map,getElem?_range h];rfl
abbrev R4(q:Nat->QN)(i:Nat):List (List PV):=emap QN.v (tmq q i)
theorem Xk(q:Nat->QN)(i:Nat):R4 q i ++ [(q i).v]=R4 q (i+1):=by simp [R4,tmq,emap,range_succ]
theorem Xm(q:Nat->QN)(i:Nat):∀l∈R4 q i,∀p∈l,aF p=true:=fun l hl=>by obtain⟨j,_,rfl⟩:=mem_map.1 hl;exact j.cB
theorem pK(q:Nat->QN)(i:Nat):(R4 q i).length=i:=by simp [R4,tmq,emap]
theorem abh(h:rows0 (rH eI ds j)=none):oa (nwR ds) (Zx ds) rows0 j=none:=by unfold oa;rw [h];rfl
def GoC(ps:List (List Int))(T c c':List PV)(r1 r2:Int)(N:List (List PV)):Prop:=
 ∀(s5 pL idT verT idP verP:Nat) (rows0:Pm.Rows) (clk0:Nat),rows0 (s5+1000000)=some ⟨pL,95,12,[c]⟩->rows0 (idT+1000000)=some ⟨verT,83,1,[[.nil]]⟩->rows0 (idP+1000000)=some ⟨verP,102,1,[[aw lcs ps]]⟩->s5≠idT->s5≠idP->idP≠idT->rows0 41=none ->
  nV env.P 43 [.ptr (s5+1000000) pL 0 0, .ag T, .lR 55 [] [.ptr (idT+1000000) verT 0 0, .ptr (idP+1000000) verP 0 0]] rows0 clk0 (fun r' rows' _=>r' = .cW [ae r1,ae r2] ∧
   rows' (s5+1000000)=some ⟨pL,95,12,[c']⟩∧TT 41 clk0 (idT+1000000) verT N rows' ∧
   ∀j,j≠s5->j≠idT -> ∀ver e n els,(∀l∈els,∀p∈l,aF p=true)->rows0 (j+1000000)=some ⟨ver,e,n,els⟩->rows' (j+1000000)=some ⟨ver,e,n,els⟩)
theorem Xn{ps:List (List Int)}{T c c':List PV}{r1 r2:Int}{N:List (List PV)}(h:GoC ps T c c' r1 r2 N)(pT:∀p∈T,aF p=true)(pc:∀p∈c,aF p=true)(pc':∀p∈c',aF p=true)(pN:∀l∈N,∀p∈l,aF p=true)
  {s5 pL:Nat} {K:PV->Pm.Rows->Nat->Prop} (hC:rows s5=some ⟨pL,95,12,[c]⟩) (hT:rows idT=some ⟨verT,83,1,[[.nil]]⟩) (hP:rows idP=some ⟨verP,102,1,[[aw lcs ps]]⟩) (hCT:s5≠idT) (hCP:s5≠idP) (Jw:idP≠idT) (NM:Nat) (hNM:NM<1000000) (hNT:NM≠idT) (hNC:NM≠s5)
  (hK:∀rows' bV,rows' s5=some ⟨pL,95,12,[c']⟩->TT NM clk idT verT N rows'->Kpd [s5,idT,NM] rows rows'->go (K (.cW [ae r1,ae r2]) rows' bV)) :
  jQ env.P 43 [.ptr s5 pL 0 0, .ag T, .lR 55 [] [.ptr idT verT 0 0, .ptr idP verP 0 0]] rows clk K:=by
 have yW:Zy [(41,NM)]:=⟨by simp [eI],av,av⟩
 have e0:[PV.ptr s5 pL 0 0, .ag T, .lR 55 [] [.ptr idT verT 0 0, .ptr idP verP 0 0]].map (GG eI) = [.ptr (s5+1000000) pL 0 0, .ag T, .lR 55 [] [.ptr (idT+1000000) verT 0 0, .ptr (idP+1000000) verP 0 0]]:=by simp [GG,pQ,eI];exact uR pT
 have hG:=h s5 pL idT verT idP verP (mG eI rows) clk (uc (k:=eI) (au pc) hC) (by rw [show idT+1000000=idT+eI from rfl,Fa,hT];rfl) (uc (k:=eI) (by simp [aw,aF]) hP) hCT hCP Jw (by simp [mG,eI]);rw [<-e0]at hG
 refine UO [(41,NM)] yW hG ?_ ?_
 ·rintro p hp r0 rows0 bV ⟨_,_,ht,_⟩ y hy;obtain rfl:=mem_singleton.1 hp
  rcases ht with ⟨_,_,h9⟩ | ⟨_,v,hv,_,h9⟩
  ·rw [h9]at hy;cases hy
  ·rw [h9]at hy;obtain rfl:=Option.some.inj hy;exact hv
 ·rintro r0 rows0 bV ⟨rfl,hC',ht,eJ⟩
  refine hK _ _ ?_ ?_ fun j hj ver e n els hp hr=>?_
  ·refine ub (au pc') ?_;rw [show rH eI [(41,NM)] s5=s5+1000000 from kQ (au hNC)];exact hC'
  ·rcases ht with ⟨NJ,ht,h9⟩ | ⟨NJ,v,hv,ht,h9⟩
   ·refine .inl ⟨NJ,?_,abh (by rw [show rH eI [(41,NM)] NM=41 from xk yW (p:=(41,NM)) av];exact h9)⟩;refine ub (by simp [aF]) ?_;rw [show rH eI [(41,NM)] idT=idT+1000000 from kQ (au hNT)];exact ht
   ·refine .inr ⟨NJ,v,hv,?_,?_⟩
    ·show(rows0 (Zx [(41,NM)] idT)).map _=_;rw [Zx,kQ (au hNT),show idT+eI=idT+1000000 from rfl,ht];simp only [Option.map_some,p8,map_cons,map_nil,Gt];rw [show nwR [(41,NM)] 41=some NM from KX yW (p:=(41,NM)) av]
    ·refine ub pN ?_;rw [show rH eI [(41,NM)] NM=41 from xk yW (p:=(41,NM)) av];exact h9
  ·refine ub hp ?_;rw [show rH eI [(41,NM)] j=j+1000000 from kQ (by intro q hq;rw [mem_singleton.1 hq];exact fun he=>hj (by have he:NM=j:=he;simp [he]))];exact eJ j (fun he=>hj (by simp [he])) (fun he=>hj (by simp [he])) _ _ _ _ hp (uc (k:=eI) hp hr)
set_option maxHeartbeats 4000000 in
theorem abi{ps:List (List Int)}{K:Nat}{S U:Nat->CS}{a:Nat->A9}{C:Nat->List CE}{m o r:A9}{ok:Bool}{q:Nat->QN}{l:Nat->List RE}{v:Int}(hv:¬0<v)(hK0:K<1000000)
  (hN:jq 49 [] 95 12 (S 0).c (S 0).c (.ag (b9 m)))
  (hc:aj 111 [.ag (b9 m), .ag [.bool s, .sl d, .bool s', .sl d']] (ae v))
  (hX:∀i,i<K->jq 51 [] 95 12 (S i).c (U i).c (.cW [.ag (b9 (a i)), .bool true]))
  (hC:∀i,i<K -> ∃v:Int,¬0<v∧aj 111 [.ag (b9 (a i)), .ag [.bool s, .sl d, .bool s', .sl d']] (ae v))
  (hL:∀i,i<K->aj 112 [.sl [b9 (a i)]] (.cW [.ag (b9 (a i)), .bool true]))
  (h1:∀i,i<K->aj 20 [.ag (b9 (a i))] (.ag (q i).v)) (h2:∀i,i<K->aj 46 [aw lcs ps, .ag (q i).v] (aw dr (l i))) (h3:∀i,i<K->aj 36 [aw dr (l i)] (aw fx (C i)))
  (hY:∀i,i<K -> ∃M e,jq 109 [.ag (b9 (a i)), .bool true,aw fx (C i)] 95 12 (U i).c (co true (a i) false M e) (.cW [])∧S (i+1)=⟨true,a i,false,M,e+1⟩∧0<=e∧e<1000000)
  (hXK:jq 51 [] 95 12 (S K).c (U K).c (.cW [.ag (b9 r), .bool ok]))
  (hCK:ok=true -> ∃v:Int,0<v∧aj 111 [.ag (b9 r), .ag [.bool s, .sl d, .bool s', .sl d']] (ae v))
  (hO:aj 113 [.ag [.bool s, .sl d, .bool s', .sl d']] (.ag (b9 o))) (hUz:(U K).z=false)
  : GoC ps [.bool s, .sl d, .bool s', .sl d'] (S 0).c (co true o false (U K).L (U K).e) K 0 (R4 q K):=by
 intro s5 pL idT verT idP verP rows0 clk0 hrC hrT hrP hCT hCP Jw ahG;simp only [db]at hN hc hX hC hL hXK hCK hO;have hpS:=fun i=>(S i).cB;have hpU:=fun i=>(U i).cB;have O8:¬idT=s5:=fun h=>hCT h.symm;have hPC:¬idP=s5:=fun h=>hCP h.symm;refine mH (E:=env) (fun _=>0) [(0, .ptr (s5+1000000) pL 0 0),(1, .ag [.bool s, .sl d, .bool s', .sl d']),(2, .lR 55 [] [.ptr (idT+1000000) verT 0 0, .ptr (idP+1000000) verP 0 0])] Tryz.func43 rfl bX bX (show 3<=61 by decide) av ?_;apply fB [0,2,4];apply W.sd;apply dB hrC;refine lC hN rfl rfl (hpS 0) (hpS 0) (by simp [hrC]) ?_;simp (disch:=omega) [gw,WW];apply cT hc
 apply s8 hv [0,2,4,17]<;>intro h
 ·simp at h
 apply W.skip;apply aR [0,2,4,8];apply (iR)
 refine W.aO (fun k σ=>∃(i v4:Nat),aQ σ [(0, .ptr (s5+1000000) pL 0 0),(2, .lR 55 [] [.ptr (idT+1000000) verT 0 0, .ptr (idP+1000000) verP 0 0]),(4, .ptr 4 v4 0 0),(8,ae i)] fun rows clk=>i+k=K∧clk0<=clk∧rows 4=some ⟨v4,52,4,[[.bool s, .sl d, .bool s', .sl d']]⟩∧rows (s5+1000000)=some ⟨pL,95,12,[(S i).c]⟩ ∧
  TT 41 clk0 (idT+1000000) verT (R4 q i) rows ∧ ∀j,j≠s5->j≠idT -> ∀ver e n els,(∀l∈els,∀p∈l,aF p=true)->rows0 (j+1000000)=some ⟨ver,e,n,els⟩->rows (j+1000000)=some ⟨ver,e,n,els⟩) K ?_ ?_
 ·exact⟨_,ak _ [0,2,4,8],0,_,_,_,rfl,aa,aa,av,by simp [hrC], .inl ⟨rfl,by simp [hrT,O8],by simp [ahG]⟩,by intro j h1 h2 ver e n els _ h;simp [h1,h2,h]⟩
 rintro k _ ⟨i,v4,rows,clk,rfl,qu,eB,cN,dY,hrt,eJ⟩;have hrp:=eJ idP hPC Jw _ _ _ _ (by simp [aw,aF]) hrP;apply W.block
 by_cases hi:i<K
 ·have x:=hX i hi;obtain⟨v,hv2,c⟩:=hC i hi;have hl:=hL i hi;have g1:=h1 i hi;have g2:=h2 i hi;have g3:=h3 i hi;obtain⟨M,e,y,hS,he0,GJ⟩:=hY i hi;have hpY:=fZ true (a i) false M e;have hqs:=Xk q i;have hqp:=Xm q i;have QQ:=pK q i;generalize a i=ai at *;apply (oC);refine oZ x rfl rfl (hpS i) (hpU i) (by simp [dY]) ?_;apply bM [0,2,4,8,9,10];apply W.seq;apply lF cN c
  apply s8 hv2 [0,2,4,8,9,30]<;>intro h
  ·simp at h
  apply rf hl [0,2,4,8,9,11];refine W.ar7 [0,0,0,0,1,1] bX rfl fun K hK=>?_;apply (cp);refine R3 g1 g2 g3 (idT:=idT+1000000) (idP:=idP+1000000) (by simp [hPC,hrp]) aa (clk0:=clk0) (N:=R4 q i) aa 41 ar aa aa hqp aa (hrt.B6 (by simp [O8]) av) ?_;intro rows' bV tQ Cf hk;have n41:∀j,j≠idT+1000000->j≠41->j ∉ [idT+1000000,41]:=fun j h1 h2=>by simp [h1,h2]
  have k4:rows' 4=some ⟨v4,52,4,[[.bool s, .sl d, .bool s', .sl d']]⟩:=hk.get (by simp [cN]) (by simp [aF]) (n41 _ aa aa);have kC:rows' (s5+1000000)=some ⟨pL,95,12,[(U i).c]⟩:=hk.get av (by simpa using hpU i) (n41 _ aa aa);have k9:rows' 9=some ⟨clk,54,9,[b9 ai]⟩:=hk.get (by simp [db]) (by simp [db,aF]) (n41 _ aa aa);have jJ:rows' 11=some ⟨clk+1,54,9,[b9 ai]⟩:=hk.get (by simp [db]) (by simp [db,aF]) (n41 _ aa aa);have kf:∀j,j≠s5->j≠idT -> ∀ver e n els,(∀l∈els,∀p∈l,aF p=true)->rows0 (j+1000000)=some ⟨ver,e,n,els⟩->rows' (j+1000000)=some ⟨ver,e,n,els⟩:=fun j h1 h2 ver e n els hp hr=>hk.get (by simp [h1,eJ j h1 h2 _ _ _ _ hp hr]) hp (n41 _ aa aa);clear hk hrt eJ cN dY hrp rows;rw [hqs]at Cf;simp only [db]at k9 jJ;apply fN k9 jJ;refine oZ y rfl rfl (hpU i) hpY kC ?_;apply fN k9 jJ;refine W.lw [0,2,4,8] hK ?_;clear hK K;simp;have qQ:(S (i+1)).c=co true ai false M (e+1):=by rw [hS];rfl
  apply W.sr;simp (disch:=omega) [gw,ff];apply c9 [0,2,4,8];refine bB fun K hK=>?_;refine hK _ ⟨k-1,_,ak _ [0,2,4,8],aa,i+1,_,_,_,rfl,aa,aa,by simp [k4],by rw [qQ];simp [ff],Cf.B6 (by simp [O8]) av,by intro j h1 h2 ver e n els hp hr;simp [h1,kf j h1 h2 _ _ _ _ hp hr]⟩
 ·obtain rfl:i=K:=by omega
  apply (oC);refine oZ hXK rfl rfl (hpS i) (hpU i) (by simp [dY]) ?_;apply bM [0,2,4,8,9,10];apply W.seq
  refine W.dx (fun σ=>aQ σ [(0, .ptr (s5+1000000) pL 0 0),(4, .ptr 4 v4 0 0),(8,ae i),(30, .bool true)] fun rows clk=>rows 4=some ⟨v4,52,4,[[.bool s, .sl d, .bool s', .sl d']]⟩∧rows (s5+1000000)=some ⟨pL,95,12,[(U i).c]⟩∧TT 41 clk0 (idT+1000000) verT (R4 q i) rows ∧ ∀j,j≠s5->j≠idT -> ∀ver e n els,(∀l∈els,∀p∈l,aF p=true)->rows0 (j+1000000)=some ⟨ver,e,n,els⟩->rows (j+1000000)=some ⟨ver,e,n,els⟩) (fun K hK=>?_) ?_
  ·cases ok
   ·apply (cp);exact hK _ _ (ak _ [0,4,8,30]) ⟨_,_,rfl,by simp [cN],av,hrt.B6 (by simp [O8]) av,by intro j h1 h2 ver e n els hp hr;simp [h1,eJ j h1 h2 _ _ _ _ hp hr]⟩
   ·obtain⟨v,hv2,c⟩:=hCK rfl;apply iI cN c;apply dB hv2;exact hK _ _ (ak _ [0,4,8,30]) ⟨_,_,rfl,by simp [cN],av,hrt.B6 (by simp [O8]) av,by intro j h1 h2 ver e n els hp hr;simp [h1,eJ j h1 h2 _ _ _ _ hp hr]⟩
  clear dY cN eJ hrt hrp rows clk eB;rintro _ ⟨rows,clk,rfl,cN,dY,hrt,eJ⟩
  apply (dI)<;>intro h
  ·apply (ey);simp only [CS.c,ff,hUz]at dY;apply lG cN dY hO;apply u6 dY [8];apply aR [6,7];apply W.ret;simp only [ff];simp [go,x7,gU,kW,dY];exact⟨hrt.B6 (by simp [O8]) av,by intro j h1 h2 ver e n els hp hr;simp [h1,eJ j h1 h2 _ _ _ _ hp hr]⟩
  ·simp at h
theorem Xo{ps:List (List Int)}{S:CS}{m:A9}{v:Int}(hv:0<v)
  (hN:jq 49 [] 95 12 S.c S.c (.ag (b9 m)))
  (hc:aj 111 [.ag (b9 m), .ag [.bool s, .sl d, .bool s', .sl d']] (ae v)) :
  GoC ps [.bool s, .sl d, .bool s', .sl d'] S.c S.c 0 8 []:=by
 intro s5 pL idT verT idP verP rows0 clk0 hrC hrT hrP hCT hCP Jw ahG;simp only [db]at hN hc;have hp:=S.cB;have O8:¬idT=s5:=fun h=>hCT h.symm;refine mH (E:=env) (fun _=>0) [(0, .ptr (s5+1000000) pL 0 0),(1, .ag [.bool s, .sl d, .bool s', .sl d']),(2, .lR 55 [] [.ptr (idT+1000000) verT 0 0, .ptr (idP+1000000) verP 0 0])] Tryz.func43 rfl bX bX (show 3<=61 by decide) av ?_;apply fB [0,2,4];apply W.sd;apply dB hrC;refine lC hN rfl rfl hp hp (by simp [hrC]) ?_;simp (disch:=omega) [gw,WW];apply cT hc
 apply s8 hv [0,2,4,17]<;>intro h
 ·apply aR [6,7];apply W.ret;simp [go,x7,gU,kW,hrC,TT,hrT,O8,ahG];intro j h1 h2 ver e n els hp hr;simp [h1,hr]
 ·simp at h
end Go.Proofs.YtiobceocpabjdaaGreat
