import Derived.Test.YtiobceocpabjdaaGreatZai
import Derived.Test.YtiobceocpabjdaaGreatZaj
import Derived.Test.YtiobceocpabjdaaGreatZao
import Derived.Test.YtiobceocpabjdaaGreatZaq
import Derived.Test.YtiobceocpabjdaaGreatZar
set_option linter.unusedSimpArgs false
set_option linter.unusedVariables false
namespace Go.Proofs.YtiobceocpabjdaaGreat
open Go Pm
open ZX hiding N W
theorem common{f h:ZX}{p q:Rat × Rat}(nf:Nf f)(nh:Nf h)(cf:wN f (bT f))(ch:wN h (bT h))(n8:ZX.N f≤20)(m8:ZX.N h≤20)(A:s8 f (vt (bK f)) p.1 p.2)(B:s8 h (vt (bK h)) q.1 q.2)(hp:p.1<p.2)(hq:q.1<q.2){lo hi:Rat}(l1:lo=p.1∨lo=q.1)(l2:p.1≤lo)(l3:q.1≤lo)(r1:hi=p.2∨hi=q.2)(r2:hi≤p.2)(r3:hi≤q.2) :
  (lo<hi∧vt (bK (gz f h)) hi<vt (bK (gz f h)) lo) ↔ ∀x,dI f p x↔dI h q x:=by
 obtain⟨w1,S1⟩:=uR (h:=h) nf cf
 obtain⟨w2,S2⟩:=uR (h:=f) nh ch
 rw [←I9]at S2
 have n1:=S1.N
 have n2:=S2.N
 have hg:=ON S1.ng.ne S1.sg (by omega)
 have X4:=ON S1.nw.ne S1.sw (by omega)
 have hw2:=ON S2.nw.ne S2.sw (by omega)
 have hv:vt (bK f) p.1=vt (bK f) p.2+1:=by
  rcases A.k with ⟨h,_⟩ | ⟨_,h⟩
  ·grind
  ·exact h
 have hv':vt (bK h) q.1=vt (bK h) q.2+1:=by
  rcases B.k with ⟨h,_⟩ | ⟨_,h⟩
  ·grind
  ·exact h
 constructor
 ·rintro⟨dN,hγ⟩
  have c1:=S1.O5 A.S hg X4 (Rat.le_of_lt dN)
  have c2:=S2.O5 B.S hg hw2 (Rat.le_of_lt dN)
  have m1:=X4.cR (Rat.le_of_lt dN)
  have m2:=hw2.cR (Rat.le_of_lt dN)
  have v1:=A.S.cR l2
  have v2:=A.S.cR r2
  have u1:=B.S.cR l3
  have u2:=B.S.cR r3
  have a1:¬dI f p lo:=by
   rintro(h | ⟨_,h⟩)
   ·grind
   ·omega
  have b1:¬dI h q lo:=by
   rintro(h | ⟨_,h⟩)
   ·grind
   ·omega
  have a2:dI f p hi:=.inr ⟨by grind,by omega⟩
  have b2:dI h q hi:=.inr ⟨by grind,by omega⟩
  exact OO A B S1 S2 hg X4 hw2 dN a1 a2 b1 b2 (by omega) (by omega) hγ
 ·intro hx
  have a1:¬dI f p lo:=by
   rcases l1 with h | h
   ·rw [h];exact A.oN (.inr ⟨rfl,hp⟩)
   ·rw [h];exact fun h2=>B.oN (.inr ⟨rfl,hq⟩) ((hx _).1 h2)
  have a2:dI f p hi:=by
   rcases r1 with h | h
   ·rw [h];exact kU
   ·rw [h];exact(hx _).2 kU
  have dN:=(fT A).lt a1 a2
  refine⟨dN,Nat.not_le.1 fun hγ=>?_⟩
  obtain⟨B0,hB0,ab1,ab2⟩:=kT lo hi
  obtain⟨δ,hδ,hno⟩:=ahX X4 B.S S1.wh B0
  obtain⟨a,b,g1,g2,g3,g4,g5,g6⟩:=WD (U:=dI f p) hδ dN a1 a2
  have o1:=oP A g5 g6 g2
  have o2:=oP B (fun hh=>g5 ((hx _).2 hh)) ((hx _).1 g6) g2
  have k1:=S1.O5 A.S hg X4 (Rat.le_of_lt g2)
  have x1:=hg.cR g1
  have x2:=hg.cR g3
  have x3:=hg.cR (Rat.le_of_lt g2)
  rcases hno a b (cK ab1 ab2 g1 (by grind)) (cK ab1 ab2 (by grind) g3) g2 g4 with hh | hh<;>omega
theorem akt{u u':Nat}{D j M:Nat}{r r':Rat}(h1:1≤D)(h2:D≤2^(2*(u+u')))(g:Gr D (2^(u+u')) j r)(g':Gr D (2^(u+u')) j r')(hj:j≤M):SQ (3*(u+u')+M+2) r∧SQ (3*(u+u')+M+2) r'∧SQ (3*(u+u')+M+2) ((r+r')/2):=
 ⟨((g.mono hj).sq h1 h2).mono (by omega),((g'.mono hj).sq h1 h2).mono (by omega),((((g.mono hj).KI (g'.mono hj))).sq h1 h2).mono (by omega)⟩
theorem aeA{D j β d:Nat}{r r':Rat}(h1:1≤D)(h2:D≤2^d)(g:Gr D (2^β) j r)(g':Gr D (2^β) j r'):SQ (β+1+d+j+1) (r'-r):=by
 obtain⟨⟨y,hy⟩,b1,b2⟩:=g
 obtain⟨⟨z,hz⟩,b3,b4⟩:=g'
 have:Gr D (2^(β+1)) j (r'-r):=⟨⟨z-y,by rw [Rat.intCast_sub,←hz,←hy];grind⟩,by rw [Rat.pow_succ];exact⟨by grind,by grind⟩⟩
 exact this.sq h1 h2
theorem AN.cmp{s n u s' n' u':Nat}{f h:ZX}{p q:Rat × Rat}(a:AN s n u f p)(b:AN s' n' u' h q)(hG:aF env.P 194 [.sl [[Po f.l],[Po h.l]]] (Po (gz f h).l))(IG:2≤ZX.N (gz f h) → ∃sg ng,pD sg ng (gz f h)∧sg≤1000000) :
  aF env.P 110 [GA f p,GA h q] (.int .i64 (cu (dI f p) (dI h q))):=by
 have I:=a.I
 have I':=b.I
 have A:=a.A
 have B:=b.A
 have hsa:=a.hs
 have hsb:=b.hs
 have hua:=a.hu
 have hub:=b.hu
 have hn:=I.ch.hn
 have BL:=I'.ch.hn
 have n8:=a.n8
 have m8:=b.n8
 have Nx:=wT I.ch.bz (by omega) (by omega) a.q1 a.q2 (by omega)
 have Ny:=wT I'.ch.bz (by omega) (by omega) b.q1 b.q2 (by omega)
 have P1:=j4 (x:=f.l) a.q1 a.q2 (by omega)
 have P2:=j4 (x:=h.l) b.q1 b.q2 (by omega)
 by_cases h1:p.1=p.2
 ·rw [decide_eq_true (by rw [h1];exact Rat.le_refl)]at P1
  have k:=b.DX (v:=u+u') (a.q1.mono (by omega)) (by omega) (by omega)
  rw [DY (p8 h1) (fun _=>Iff.rfl),aef fun s t=>B.up]
  exact aon Nx Ny (aeh _ _) P1 k
 have dN:p.1<p.2:=by have:=A.le;grind
 rw [decide_eq_false (Rat.not_le.2 dN)]at P1
 by_cases h2:q.1=q.2
 ·rw [decide_eq_true (by rw [h2];exact Rat.le_refl)]at P2
  have k:=a.DX (v:=u+u') (b.q1.mono (by omega)) (by omega) (by omega)
  rw [DY (fun _=>Iff.rfl) (p8 h2),Z7 fun s t=>A.up]
  exact aoo Nx Ny P1 P2 k
 have hlq:q.1<q.2:=by have:=B.le;grind
 rw [decide_eq_false (Rat.not_le.2 hlq)]at P2
 have a1:=a.q1.mono (show u≤u+u' by omega)
 have a2:=a.q2.mono (show u≤u+u' by omega)
 have b1:=b.q1.mono (show u'≤u+u' by omega)
 have b2:=b.q2.mono (show u'≤u+u' by omega)
 have hU:u+u'≤1000000000:=by omega
 have kM:=aae a1 b1 hU
 have kD:=c7 b2.nL b2.dL a2.nL a2.dL (by omega) (aY q.2) (aY p.2) ⟨b2.nL,b2.dL⟩ ⟨a2.nL,a2.dL⟩
 obtain⟨lo,EB,l1,l2,l3,ql⟩:∃lo,lo=(if p.1<q.1 then q.1 else p.1)∧(lo=p.1∨lo=q.1)∧p.1≤lo∧q.1≤lo∧SQ (u+u') lo:=by
  refine⟨_,rfl,?_⟩
  split
  ·exact⟨.inr rfl,by grind,Rat.le_refl,b1⟩
  ·exact⟨.inl rfl,Rat.le_refl,by grind,a1⟩
 obtain⟨hi,O0,r1,r2,r3,qh⟩:∃hi,hi=(if q.2<p.2 then q.2 else p.2)∧(hi=p.2∨hi=q.2)∧hi≤p.2∧hi≤q.2∧SQ (u+u') hi:=by
  refine⟨_,rfl,?_⟩
  split
  ·exact⟨.inr rfl,by grind,Rat.le_refl,b2⟩
  ·exact⟨.inl rfl,Rat.le_refl,by grind,a2⟩
 rw [←EB]at kM
 have A7:if dH (q.2.num*(p.2.den:Int)) (p.2.num*(q.2.den:Int))<0 then hi.num=q.2.num∧(hi.den:Int)=q.2.den else hi.num=p.2.num∧(hi.den:Int)=p.2.den:=by
  by_cases hh:q.2<p.2
  ·rw [if_pos (gN.2 hh),O0,if_pos hh];exact⟨rfl,rfl⟩
  ·rw [if_neg (fun h3=>hh (gN.1 h3)),O0,if_neg hh];exact⟨rfl,rfl⟩
 have kL:=c7 ql.nL ql.dL qh.nL qh.dL (by omega) (aY lo) (aY hi) ⟨ql.nL,ql.dL⟩ ⟨qh.nL,qh.dL⟩
 have zl:dH (lo.num*(hi.den:Int)) (hi.num*(lo.den:Int))<0↔lo<hi:=gN
 have hgN:ZX.N (gz f h)≤ZX.N f:=(fG f h).l.nD I.nf.ne
 have hD:aF env.P 83 [Po (gz f h).l] (.int .i64 ((ZX.N (gz f h):Int)-1)):=kQ (gz f h).l (by show ZX.N (gz f h)<_;omega)
 have key:=common I.nf I'.nf I.Z4 I'.Z4 (by omega) (by omega) A B dN hlq l1 l2 l3 r1 r2 r3
 obtain⟨w1,S1⟩:=uR (h:=h) I.nf I.Z4
 have sn:=S1.N
 have hg:=ON S1.ng.ne S1.sg (by omega)
 have X4:=ON S1.nw.ne S1.sw (by omega)
 have hv:vt (bK f) p.1=vt (bK f) p.2+1:=by
  rcases A.k with ⟨h,_⟩ | ⟨_,h⟩
  ·exact absurd h h1
  ·exact h
 have hH:dH (lo.num*(hi.den:Int)) (hi.num*(lo.den:Int))<0→(0:Int)<(ZX.N (gz f h):Int)-1→aF env.P 195 [Po (gz f h).l,RT lo,RT hi] (.bool (decide (vt (bK (gz f h)) hi<vt (bK (gz f h)) lo))):=fun z1 z2=>by
  obtain⟨sg,ng,IGG,SC⟩:=IG (by omega)
  have hlh:=zl.1 z1
  have c1:=S1.O5 A.S hg X4 (Rat.le_of_lt hlh)
  have m1:=X4.cR (Rat.le_of_lt hlh)
  have v1:=A.S.cR l2
  have v2:=A.S.cR r2
  exact WI IGG SC hlh (by omega) ql qh hU
 have hgc:vt (bK (gz f h)) hi<vt (bK (gz f h)) lo→lo<hi→2≤ZX.N (gz f h):=fun hz hlh=>Nat.not_lt.1 fun h2=>by
  obtain⟨d,hd,e⟩:=ZX.lA (x:=gz f h) (by have:=ZX.aE.1 S1.ng.ne;omega)
  rw [e]at hz hg
  have:=hg.const hlh (σ:=bZ (d:Rat)) (.inr (by rw [zV])) (fun x _ _=>by rw [zV])
  omega
 by_cases OV:∀x,dI f p x↔dI h q x
 ·obtain⟨c1,c2⟩:=key.2 OV
  rw [ahR.2 OV]
  have c3:=hgc c2 c1
  refine WL (v:=GA f p) (w:=GA h q) (hn:=hi.num) (hd:=(hi.den:Int)) Nx Ny P1 P2 kM kD A7 kL (fun _=>hG) (fun _=>hD) hH (fun _=>rfl) (fun hno=>?_) ⟨_,_,_,_,rfl⟩ ⟨_,_,_,_,rfl⟩
  exact absurd ⟨zl.2 c1,by omega,decide_eq_true c2⟩ hno
 ·have hno:¬(dH (lo.num*(hi.den:Int)) (hi.num*(lo.den:Int))<0∧(0:Int)<(ZX.N (gz f h):Int)-1∧decide (vt (bK (gz f h)) hi<vt (bK (gz f h)) lo)=true):=fun⟨z1,_,z3⟩=>OV (key.1 ⟨zl.1 z1,of_decide_eq_true z3⟩)
  obtain⟨M,R,hM1,hM2⟩:=G7 (u:=u+u') (ad:=p.1.den) (bd:=p.2.den) (cd:=q.1.den) (dd:=q.2.den) I.ch.bz I'.ch.bz (by omega) (by omega) (by omega) (by omega) (Nat.lt_of_lt_of_le (iS (b:=2) (by decide) p.1.num) (Nat.pow_le_pow_right (by decide) a1.n2)) (Nat.lt_of_lt_of_le (iS (b:=2) (by decide) p.2.num) (Nat.pow_le_pow_right (by decide) a2.n2)) (Nat.lt_of_lt_of_le (iS (b:=2) (by decide) q.1.num) (Nat.pow_le_pow_right (by decide) b1.n2)) (Nat.lt_of_lt_of_le (iS (b:=2) (by decide) q.2.num) (Nat.pow_le_pow_right (by decide) b2.n2)) (by omega)
  have zf:=G6 I.ch.bz
  have zh:=G6 I'.ch.bz
  have hMb:4*(ZX.N f+ZX.N h)*(zs f+zs h+(ZX.N f+ZX.N h)+8)≤4*16*(100000+100000+16+8):=Nat.mul_le_mul (by omega) (by omega)
  obtain⟨J,hJ,iQ,hj⟩:=aex a b OV dN hlq hM1
  obtain⟨D,hD1,GG,g1,g2⟩:=OP a1 a2
  obtain⟨D',auX,auY,g3,g4⟩:=OP b1 b2
  have spec:=wU A B g1 g2 g3 g4
  have hV:3*(u+u')+M+2≤1000000000:=by omega
  have sqj:=fun j (hjM:j≤M)=>akt (M:=M) hD1 GG (spec j).2.2.2.2.1 (spec j).2.2.2.2.2.1 hjM
  have auZ:=fun j (hjM:j≤M)=>akt (M:=M) auX auY (spec j).2.2.2.2.2.2.1 (spec j).2.2.2.2.2.2.2 hjM
  obtain⟨J1,J2,_⟩:=sqj J (by omega)
  obtain⟨J3,J4,_⟩:=auZ J (by omega)
  have c1:=c7 J2.nL J2.dL J3.nL J3.dL (by omega) (aY (st f h p q J).1.2) (aY (st f h p q J).2.1) ⟨J2.nL,J2.dL⟩ ⟨J3.nL,J3.dL⟩
  have c2:=c7 J4.nL J4.dL J1.nL J1.dL (by omega) (aY (st f h p q J).2.2) (aY (st f h p q J).1.1) ⟨J4.nL,J4.dL⟩ ⟨J1.nL,J1.dL⟩
  have PJ:=j4 (x:=f.l) J1 J2 hV
  have PJ':=j4 (x:=h.l) J3 J4 hV
  obtain⟨s1,s2,s3,s4,_⟩:=spec J
  have hsJ:¬ ∀x,dI f (st f h p q J).1 x↔dI h (st f h p q J).2 x:=fun hh=>OV fun x=>((s3 x).symm.trans (hh x)).trans (s4 x)
  have both:∀ {z:Rat},(st f h p q J).1.2≤(st f h p q J).1.1→(st f h p q J).2.2≤(st f h p q J).2.1→(st f h p q J).1.1=z→(st f h p q J).2.1=z→False:=fun {z} e1 e2 e3 e4=>hsJ fun x=>by
   have i1:=s1.le
   have i2:=s2.le
   rw [p8 (by grind) x,p8 (by grind) x,e3,e4]
  have hc:(dH ((st f h p q J).1.2.num*((st f h p q J).2.1.den:Int)) ((st f h p q J).2.1.num*((st f h p q J).1.2.den:Int))≤0∧cu (dI f p) (dI h q) = -1)∨(0<dH ((st f h p q J).1.2.num*((st f h p q J).2.1.den:Int)) ((st f h p q J).2.1.num*((st f h p q J).1.2.den:Int))∧dH ((st f h p q J).2.2.num*((st f h p q J).1.1.den:Int)) ((st f h p q J).1.1.num*((st f h p q J).2.2.den:Int))≤0∧cu (dI f p) (dI h q)=1):=by
   rw [←DY s3 s4]
   by_cases h3:(st f h p q J).1.2≤(st f h p q J).2.1
   ·exact .inl ⟨pE.2 h3,ah2 (fun s t=>s1.up) kU (fun t=>lo_le s2) h3 hsJ⟩
   ·exact .inr ⟨gM.2 (Rat.not_le.1 h3),pE.2 (iQ.resolve_left h3),ah3 (fun s t=>s2.up) kU (fun t=>lo_le s1) (iQ.resolve_left h3) hsJ⟩
  have W:=TG (an:=fun j=>(st f h p q j).1.1.num) (ad:=fun j=>(st f h p q j).1.1.den) (bn:=fun j=>(st f h p q j).1.2.num) (bd:=fun j=>(st f h p q j).1.2.den) (cn:=fun j=>(st f h p q j).2.1.num) (cd:=fun j=>(st f h p q j).2.1.den) (dn:=fun j=>(st f h p q j).2.2.num) (dd:=fun j=>(st f h p q j).2.2.den) R (by omega) (fun j hjJ=>by
   obtain⟨J1,J2,J12⟩:=sqj j (by omega)
   obtain⟨J3,J4,J34⟩:=auZ j (by omega)
   obtain⟨m1,m2⟩:=not_or.1 (hj j hjJ)
   have c1:=c7 J2.nL J2.dL J3.nL J3.dL (by omega) (aY (st f h p q j).1.2) (aY (st f h p q j).2.1) ⟨J2.nL,J2.dL⟩ ⟨J3.nL,J3.dL⟩
   have c2:=c7 J4.nL J4.dL J1.nL J1.dL (by omega) (aY (st f h p q j).2.2) (aY (st f h p q j).1.1) ⟨J4.nL,J4.dL⟩ ⟨J1.nL,J1.dL⟩
   have d1:=G8 (J2.LLs (Nat.le_refl _)) (J1.LLs (Nat.le_refl _)) (by omega)
   have d2:=G8 (J4.LLs (Nat.le_refl _)) (J3.LLs (Nat.le_refl _)) (by omega)
   have w1:=(aeA hD1 GG (spec j).2.2.2.2.1 (spec j).2.2.2.2.2.1).mono (show u+u'+1+2*(u+u')+j+1≤3*(u+u')+M+2 by omega)
   have w2:=(aeA auX auY (spec j).2.2.2.2.2.2.1 (spec j).2.2.2.2.2.2.2).mono (show u+u'+1+2*(u+u')+j+1≤3*(u+u')+M+2 by omega)
   have c3:=c7 w1.nL w1.dL w2.nL w2.dL (by omega) (aY ((st f h p q j).1.2-(st f h p q j).1.1)) (aY ((st f h p q j).2.2-(st f h p q j).2.1)) ⟨w1.nL,w1.dL⟩ ⟨w2.nL,w2.dL⟩
   have H1:=D0 I (by omega) (spec j).1 J1 J2 J12 hV
   have H2:=D0 I' (by omega) (spec j).2.1 J3 J4 J34 hV
   refine⟨⟨_,c1,gM.2 (Rat.not_le.1 m1)⟩,⟨_,c2,gM.2 (Rat.not_le.1 m2)⟩,_,_,_,_,_,d1,d2,c3,?_⟩
   have e1:st f h p q (j+1)=if (st f h p q j).2.2-(st f h p q j).2.1≤(st f h p q j).1.2-(st f h p q j).1.1 then(uX f (st f h p q j).1,(st f h p q j).2)else((st f h p q j).1,uX h (st f h p q j).2):=rfl
   by_cases hw:(st f h p q j).2.2-(st f h p q j).2.1≤(st f h p q j).1.2-(st f h p q j).1.1
   ·rw [if_pos hw]at e1
    rw [if_pos (Int.not_lt.1 fun hh=>absurd (gN.1 hh) (Rat.not_lt.2 hw)),e1]
    exact⟨H1,rfl⟩
   ·rw [if_neg hw]at e1
    rw [if_neg (Int.not_le.2 (gN.2 (Rat.not_le.1 hw))),e1]
    exact⟨H2,rfl⟩) hJ c1 c2 PJ PJ' (fun ⟨e1,e2,e3⟩=>both (of_decide_eq_true e1) (of_decide_eq_true e2) (z:=(st f h p q J).2.1) (by
   have i1:=s1.le
   have i4:=of_decide_eq_true e1
   have:=l8.1 e3
   grind) rfl) (fun ⟨e1,e2,e3⟩=>both (of_decide_eq_true e1) (of_decide_eq_true e2) (z:=(st f h p q J).1.1) rfl (by
   have i2:=s2.le
   have i4:=of_decide_eq_true e2
   have:=l8.1 e3
   grind)) hc
  refine WL (hn:=hi.num) (hd:=(hi.den:Int)) Nx Ny P1 P2 kM kD A7 kL (fun _=>hG) (fun _=>hD) hH (fun hh=>absurd hh hno) (fun _=>W) ⟨_,_,_,_,rfl⟩ ⟨_,_,_,_,rfl⟩
end Go.Proofs.YtiobceocpabjdaaGreat
namespace Go.Proofs.YtiobceocpabjdaaGreat
open Go Pm
theorem aku(a b:ZX):DG [a,b]=gz a b:=by
 show gz (gz 0 a) b=_
 rw [NR,VJ]
theorem au0(a:ZX):DG [a]=nf a:=by
 show gz 0 a=_
 rw [NR]
theorem aoq{C n s:Nat}{a c:ZX}(ha:ZX.N a≤n)(hc:ZX.N c≤n)(h:(s+n+1)*2*4^n≤C):zU C n s (nf a) (nf c):=by
 unfold zU
 rw [xT,xT]
 have h1:∀k,k≤n→(s+n+1)*2*4^k≤C:=fun k hk=>Nat.le_trans (Nat.mul_le_mul_left _ (Nat.pow_le_pow_right (by decide) hk)) h
 split
 ·refine Nat.le_trans (Nat.mul_le_mul_right _ ?_) (h1 _ ha)
  omega
 ·exact h1 _ hc
structure Eu(s n:Nat):Prop where
 hn:n≤20
 hs:1≤s
 hC:(s+n+1)*2*4^n≤4500000000
theorem Eu.two{s n:Nat}(h:Eu s n){a c:ZX}(ba:BZ s n a)(bc:BZ s n c):aF env.P 142 [Po a.l,Po c.l] (Po (gz a c).l):=VP ba bc (aoq ba.N bc.N h.hC) h.hn (Nat.le_refl _)
theorem ah4(s n:Nat):BZ s n 0:=⟨Nat.zero_le _,fun c hc=>by cases hc⟩
theorem Eu.ahH{s n:Nat}(h:Eu s n){a c:ZX}(ba:BZ s n a)(bc:BZ s n c):aF env.P 194 [.sl [[Po a.l],[Po c.l]]] (Po (gz a c).l):=by
 have:=aht [a,c] (by simp) (fun i hi=>by
  match i,hi with
  | 0,_=>exact h.two (ah4 s n) ba
  | 1,_ =>
   have e:DG ([a,c].take 1)=nf a:=au0 a
   rw [e]
   have:=h.two ba.nf bc
   rw [show DG ([a,c].take (1+1))=gz (nf a) c from by rw [VJ];exact aku a c]
   exact this)
 rw [aku]at this
 exact this
end Go.Proofs.YtiobceocpabjdaaGreat
namespace Go.Proofs.YtiobceocpabjdaaGreat
open Go Pm
open ZX hiding N W
theorem WM{s n:Nat}{f:ZX}{p:Rat × Rat}(I:pD s n f)(hs:s≤100000)(n8:ZX.N f≤8)(hp:p∈JZ s n f):AN s n (uu s) f p∧AN s n (uu s) f (ex f p):=by
 obtain⟨a1,a2,a3,a4,a5,a6⟩:=I.ivs.mem _ hp
 obtain⟨_,_,b1,b2,b3⟩:=I.root hp
 have hb:=J6 I.nf (OT I.ch.bz)
 have h1:Ab p.1 (2^(zs f+1)):=by obtain⟨x,y⟩:=hb;exact⟨by grind,by grind⟩
 have h2:Ab p.2 (2^(zs f+1)):=by obtain⟨x,y⟩:=hb;exact⟨by grind,by grind⟩
 have hu:uu s≤30000000:=by unfold uu;omega
 refine⟨⟨I,hs,⟨I.S, .inr ⟨a4,a6⟩⟩,a1,a2,hu,n8,fun _=>h1,fun _=>h2⟩,⟨I,hs,b1,b2,b3,hu,n8,fun _=>?_,fun _=>?_⟩⟩
 ·unfold ex
  split
  ·exact h2
  ·exact h1
 ·unfold ex
  split<;>exact h2
theorem WN(t:Rat):Nf (dP t):=by
 have hd:=t.den_pos
 refine⟨ZX.aE.2 (by rw [lO];decide),?_,?_⟩
 ·rw [uS]
  unfold bN
  simp only [List.foldl_cons,List.foldl_nil,Nat.gcd_zero_left,Int.natAbs_neg,Int.natAbs_natCast]
  exact t.reduced
 ·rw [uS]
  show 0<nth [-t.num,(t.den:Int)] 1
  show(0:Int)<(t.den:Int)
  omega
theorem aeB(t:Rat):wN (dP t) (bT (dP t)):=fun d _ h2=>by
 rw [ael]at h2
 have hd:=t.den_pos
 have:=h2.nD (ZX.pB (show (t.den:Int)≠0 by omega))
 rwa [ZX.N_K (show (t.den:Int)≠0 by omega)]at this
theorem OW{t:Rat}{s n:Nat}(sb:t.num.natAbs≤30∧((t.den:Int)).natAbs≤6)(hs:5≤s)(hn:2≤n)(h1:n≤20)(h2:n+1≤2^s)(h3:(qb s n+n+6)*4^n≤4500000000)(h4:s≤5000000):pD s n (dP t):=by
 have bz:BZ s n (dP t):=⟨by show ZX.N (dP t)≤_;rw [lO];exact hn,fun c hc=>by
  rw [uS]at hc
  simp only [List.mem_cons,List.not_mem_nil,or_false]at hc
  refine Nat.le_trans (nI (k:=5) ?_) hs
  rcases hc with rfl | rfl<;>omega⟩
 exact⟨⟨bz,h1,h2,h3⟩,by omega,WN t,J0 (WN t) (aeB t),h4⟩
theorem au1{s n:Nat}{f:ZX}{t:Rat}(I:pD s n f)(hs:s≤100000)(n8:ZX.N f≤8)(h0:e t f=0){u:Nat}(q:SQ u t)(hu:u≤30000000):AN s n u f (t,t)∧Ex f (t,t):=
 ⟨⟨I,hs,⟨I.S, .inl ⟨rfl,h0⟩⟩,q,q,hu,n8,fun h=>absurd h Rat.lt_irrefl,fun h=>absurd h Rat.lt_irrefl⟩,fun _=>rfl⟩
theorem zI(t:Rat):e t (dP t)=0:=by rw [JN];grind
structure SzC(s n S k:Nat):Prop where
 h1:(qb (qb s n) n+n+6)*4^n≤4500000000
 h2:qb s n≤1000000
 hE:(max s (S+5*k)+max n k+1)*2*4^max n k≤4500000000
 hL:(qb (S+5*k) k+k+6)*4^k≤4500000000
 hk:1≤k
 h8:k≤8
 hS:k+1≤2^(S+5*k)
 hS2:S+5*k≤100000
theorem SzC.lay{s n S k:Nat}(z:SzC s n S k){q:ZX}(bq:BZ (S+5*k) k q):qL (S+5*k) k q:=⟨bq,by have:=z.h8;omega,z.hS,z.hL⟩
theorem SzC.s1{s n S k:Nat}(z:SzC s n S k):1≤S+5*k:=by have:=z.hk;omega
theorem SzC.eu{s n S k:Nat}(z:SzC s n S k)(hn:n≤20):Eu (max s (S+5*k)) (max n k):=⟨by have:=z.h8;omega,by have:=z.s1;omega,z.hE⟩
section
variable {s n u S k:Nat} {f:ZX} {p:Rat × Rat} (a:AN s n u f p) (z:SzC s n S k)
include a z
theorem AN.sgC{q:ZX}(bq:BZ (S+5*k) k q):SgC (S+5*k) k f q:=by
 have I:=a.I
 have L:=z.lay bq
 have E:=z.eu I.ch.hn
 refine⟨bq,z.hS2,by have:=z.h8;omega,by have:=bq.N;have:=z.h8;omega,E.ahH (bq.mono (by omega) (by omega)) (I.ch.bz.mono (by omega) (by omega)),fun _=>⟨_,_,aez I q z.h1 (by have:=z.h2;omega),z.h2⟩,fun h0=>⟨_,_,L.ch h0 z.hk⟩,fun h0=>JJ (uJ L) (L.ch h0 z.hk) (DL h0).1⟩
end
theorem AN.sg0{s n u:Nat}{f:ZX}{p:Rat × Rat}(a:AN s n u f p):sgU (dI f p) 0=0:=(show SgU (dI f p) 0 0 from .inl ⟨rfl,OR (fT a.A)⟩).eq (fT a.A)
noncomputable def afU(U:Rat→Prop)(q:ZX):Int:=WG (sgU U) (ZX.N q) q
section
variable {s n u S k:Nat} {f:ZX} {p:Rat × Rat} (a:AN s n u f p) (z:SzC s n S k) {q:ZX} (bq:BZ S k q)
include a z bq
theorem AN.at:aF env.P 185 [Po q.l,GA f p] (.int .i64 (afU (dI f p) q)):=
 ahZ (sgU (dI f p)) a.sg0 bq (by have:=z.h8;omega) (by have:=z.hS2;omega) fun r s' zZ br=>a.sg (a.sgC z (br.mono zZ (Nat.le_refl _)))
end
theorem aeC{x:List Int}{c:List ZX}{an ad bn bd:Int}(hT:aF env.P 100 [PI x] (Po x))(h1:aF env.P 23 [R2 an ad] (T2 an ad))(h2:aF env.P 23 [R2 bn bd] (T2 bn bd)):aF env.P 29 [.ag (A10 x c an ad bn bd)] (.ag (G9 x an ad bn bd)):=by
 simp only [A10,G9]
 refine cD [(0, .ag (A10 x c an ad bn bd))] Tryz.func29 ?_
 refine aA [1,2] ?_
 refine nK ?_
 refine cU hT ?_
 refine cU h1 ?_
 refine aC h2 ?_
 (try (refine bC (of_decide_eq_true (by kernel_rfl)) ?_));(try simp (maxSteps:=4000000) (disch:=omega) [gw]);(repeat rw [if_pos (by kernel_rfl)]);(try simp (maxSteps:=4000000) (disch:=omega) [gw])
 refine bG [2] ?_
 exact cC
theorem AN.toA{s n u:Nat}{f:ZX}{p:Rat × Rat}(a:AN s n u f p):aF env.P 29 [QA f (bK f) p] (GA f p):=by
 have hu:=a.hu
 have h1:=a.q1.tor (show u≤137438953472 by omega)
 have h2:=a.q2.tor (show u≤137438953472 by omega)
 rw [gR]at h1 h2
 exact aeC (VX a.I.ch.bz (by have:=a.hs;omega) (by have:=a.I.ch.hn;omega)) h1 h2
theorem aah{x:List Int}{an ad bn bd:Int}(h:aF env.P 192 [.ag (G9 x an ad bn bd)] (.ag (G9 x an ad bn bd))):aF env.P 198 [.ag (G9 x an ad bn bd)] (.ag (G9 x an ad bn bd)):=by
 simp only [G9]at *
 refine cD [(0, .ag (G9 x an ad bn bd))] Tryz.func198 ?_
 refine aA [1,2] ?_
 refine aR [2] h ?_
 exact cC
theorem HA:aF env.P 112 [.sl []] (.dU [aey, .bool false]):=by
 refine cD [(0, .sl [])] Tryz.func112 ?_
 refine aA [0,2] ?_
 refine aP [0,2,9] ?_
 refine bJ ?_ ?_<;>intro h
 ·refine aA [2,3] ?_
  exact cC
 ·simp at h
theorem TJ{x y:List Int}{f:ZX}{L:List (Rat × Rat)}{an ad bn bd:Int}{k:Nat}(hT:aF env.P 255 [Po x] (aN (ga f) L))(hl:L.length<1000000)(hk:k≤L.length)(hb:∀i,i<k → ∃z:Int,aF env.P 110 [GA f (nth L i), .ag (G9 y an ad bn bd)] (.int .i64 z)∧¬0<z)(hc:k<L.length → ∃z:Int,aF env.P 110 [GA f (nth L k), .ag (G9 y an ad bn bd)] (.int .i64 z)∧0<z) :
  aF env.P 206 [Po x, .ag (G9 y an ad bn bd)] (.dU [if k<L.length then GA f (nth L k)else aey, .bool (decide (k<L.length))]):=by
 simp only [G9]at *
 refine cD [(0,Po x),(1, .ag (G9 y an ad bn bd))] Tryz.func206 ?_
 refine aA [0,3,4] ?_
 refine W.seq ?_
 refine aR [3,4,9,10,11] hT ?_
 refine W.block ?_
 refine W.bE (fun m σ=>∃(i v3 v4:Nat) (rows:Pm.Rows) (clk:Nat),σ=⟨fa [(3, .ptr 3 v3 0 0),(4, .ptr 4 v4 0 0),(9,aN (ga f) L),(10, .int .i64 L.length),(11, .int .i64 i)],rows,clk⟩∧rows 3=some ⟨v3,54,9,[G9 y an ad bn bd]⟩∧rows 4=some ⟨v4,54,9,[[.nil, .bool false, .nil, .bool false, .nil, .bool false, .nil, .bool false, .nil]]⟩∧i+m=k) k ?_ ?_
 ·exact⟨_, .refl,0,_,_,_,_,rfl,by simp,by simp,by omega⟩
 rintro m _ ⟨i,v3,v4,rows,clk,rfl,b8,dS,him⟩
 simp only [G9]at b8
 refine bV [3,4,9,10,11,12] ?_
 refine bJ ?_ ?_<;>intro h
 ·have hi:i<L.length:=by simp at h;omega
  refine kY ?_
  refine W.sr ?_
  simp (disch:=omega) [gw,hi]
  refine bG [3,4,7,9,10,11] ?_
  by_cases zT:i<k
  ·obtain⟨z,hz,nT⟩:=hb i zT
   simp only [GA,ga,List.cons_append,List.nil_append]at hz
   refine W.sr ?_
   simp (disch:=omega) [gw,b8]
   refine cQ [3,4,7,9,10,11,18] hz ?_
   refine bJ ?_ ?_<;>intro h
   ·exfalso;simp at h;exact nT h
   refine W.skip ?_
   refine W.cA (fun K hK=>?_);simp (disch:=omega) [gw]
   refine hK _ ⟨m-1,_,aB _ [3,4,9,10,11],by omega,i+1,_,_,_,_,rfl,by simp [b8],by simp [dS],by omega⟩
  ·have azR:i=k:=by omega
   subst azR
   obtain⟨z,hz,nT⟩:=hc hi
   simp only [GA,ga,List.cons_append,List.nil_append]at hz
   rw [if_pos hi,decide_eq_true hi]
   refine W.sr ?_
   simp (disch:=omega) [gw,b8]
   refine cQ [3,4,7,9,10,11,18] hz ?_
   refine bJ ?_ ?_<;>intro h
   ·refine W.sr ?_
    simp (disch:=omega) [gw,dS]
    refine bG [4,5] ?_
    exact cC
   ·exfalso;simp at h;omega
 ·have hi:i=L.length:=by simp at h;omega
  have hkL:k=L.length:=by omega
  rw [if_neg (by omega),decide_eq_false (by omega)]
  refine fH ?_
  refine W.sr ?_
  simp (disch:=omega) [gw,dS]
  refine bG [4,5] ?_
  exact cC
def nxo:Option (ZX × Rat × Rat)→PV
 | none => .dU [aey, .bool false]
 | some e => .dU [.ag (gg e), .bool true]
structure CpC(s n s' n':Nat):Prop where
 hE:(max s s'+max n n'+1)*2*4^max n n'≤4500000000
 h1:(qb (qb s n) n+n+6)*4^n≤4500000000
 h2:qb s n≤1000000
 h3:(qb (qb s' n') n'+n'+6)*4^n'≤4500000000
 h4:qb s' n'≤1000000
 hS:max s s'≤20000
 h20:max n n'≤20
section
variable {s n u s' n' u':Nat} {f h:ZX} {p q:Rat × Rat} (a:AN s n u f p) (b:AN s' n' u' h q) (c:CpC s n s' n')
include a b c
theorem AN.azS:aF env.P 110 [GA f p,GA h q] (.int .i64 (cu (dI f p) (dI h q))):=
 have E:Eu (max s s') (max n n'):=⟨c.h20,by have:=a.I.s1;omega,c.hE⟩
 a.cmp b (E.ahH (a.I.ch.bz.mono (by omega) (by omega)) (b.I.ch.bz.mono (by omega) (by omega))) fun _=>⟨_,_,aez b.I f c.h3 (by have:=c.h4;omega),c.h4⟩
end
def nxt(f:ZX)(L:List (Rat × Rat))(k:Nat):Option (ZX × Rat × Rat):=if k<L.length then some (f,nth L k)else none
theorem ah5{n d:Int}(hM:aF env.P 90 [T2 n d, .sl []] (T2 n d))(hg:aF env.P 148 [I n] (I (-n))):aF env.P 113 [T2 n d] (.ag (G9 [-n,d] n d n d)):=by
 simp only [G9]
 refine cD [(0,T2 n d)] Tryz.func113 ?_
 refine aA [1,2] ?_
 refine aR [1,2] hM ?_
 refine nK ?_
 refine cU hg ?_
 refine cQ [2] hM ?_
 refine W.ret ?_
 simp [go]
 rw [show Po [-n,d] = .sl [ie (-n),ie d]from rfl]
 simp [ie]
theorem HB:aF env.P 118 [.ag [.bool false, .sl []]] (T2 0 1):=by
 have h1:aF env.P 132 [.ag [.bool false, .sl []]] (I 0):=CL (x:=0) (Nat.lt_of_le_of_lt (dW gF (k:=1) (by decide)) (by decide))
 have h2:=xL 1 (by decide) (by decide)
 refine cD [(0, .ag [.bool false, .sl []])] Tryz.func118 ?_
 refine aA [1,2] ?_
 refine jG ?_
 refine cU h1 ?_
 refine cQ [2] h2 ?_
 exact cC
def unx:PV→PV
 | .iK l => .sl l
 | p=>p
theorem ah6{c:Cx}{p:PV}{v:Value}(h:aG c p v):aG c (unx p) v:=by
 cases p with
 | iK l=>exact UF h
 | _=>exact h
theorem fO.iK{P:Program}{g:FuncId}{args:List PV}{e:TypeId}{n:Nat}{core dY:List PV}{r:PV}(h:fO P g (args.map unx) e n core dY r):fO P g args e n core dY r:=by
 intro id ver rows clk h1 h2 h3
 obtain⟨h4,h5⟩:=h id ver rows clk h1 h2 h3
 refine⟨h4,fun w0 S0 c vs G hI hr gC fN hG=>h5 w0 S0 c vs G hI hr gC ?_ hG⟩
 refine bB.cS (by simpa using fN.length) fun i a b ha hb=>?_
 cases i with
 | zero =>
  simp at ha
  subst ha
  obtain⟨b',j8,sY⟩:=fN.get (k:=0) (a:=.ptr id ver 0 0) (by simp)
  rw [hb]at j8;cases j8
  exact sY
 | succ i =>
  simp only [List.getElem?_cons_succ,List.getElem?_map,Option.map_eq_some_iff]at ha
  obtain⟨a',KB,rfl⟩:=ha
  obtain⟨b',j8,sY⟩:=fN.get (k:=i+1) (a:=a') (by simpa using KB)
  rw [hb]at j8;cases j8
  exact ah6 sY
theorem HC:([.bool false, .nil, .bool false, .nil, .bool false, .nil, .bool false, .nil, .bool false, .nil, .nil, .int .i64 0]:List PV)=co false A9.no true [] 0:=rfl
theorem J8{n1 d1 n2 d2 an ad bn bd:Int}{x y:List Int}{C1 C2:List ZX}{t r:A9}{L:List WE}
  (h1:aF env.P 12 [.int .i64 0, .int .i64 1] (R2 n1 d1)) (h2:aF env.P 41 [R2 n1 d1] (AP x C1 n1 d1)) (h3:aF env.P 29 [AP x C1 n1 d1] (.ag (b9 t)))
  (h4:aF env.P 97 [.sl [[.int .i64 (-1)],[.int .i64 1]]] (PI [-1,1])) (h5:aF env.P 100 [PI [-1,1]] (Po [-1,1]))
  (hB:fO env.P 42 [.ag (b9 t),aN lH [⟨⟨0,0,0,0,0⟩,false,[-1,1], -1⟩]] 95 12 (co false A9.no true [] 0) (co true t false L 0) (.dU []))
  {M:List WE} (hX:fO env.P 51 [] 95 12 (co true t false L 0) (co true t false M 0) (.dU [.ag (b9 r), .bool true]))
  (h6:aF env.P 20 [.ag (b9 r)] (.ag (A10 y C2 an ad bn bd))) (h7:aF env.P 12 [.int .i64 1, .int .i64 1] (R2 n2 d2)) (h8:aF env.P 19 [.ag (A10 y C2 an ad bn bd),R2 n2 d2] (.int .i64 0)) :
  aF env.P 45 [] (.bool true):=by
 have hp0:=gG false A9.no true [] 0
 have GF:=gG true t false L 0
 have D6:=gG true t false M 0
 have hE:fO env.P 44 [] 95 12 (co true t false M 0) (co true t false M 0) (.int .i64 0):=uE
 have hq:aN lH [⟨⟨0,0,0,0,0⟩,false,[-1,1], -1⟩] = .sl [[.int .i64 0, .int .i64 0, .int .i64 0, .int .i64 0, .int .i64 0,Po [-1,1], .int .i64 (-1)]]:=rfl
 rw [hq]at hB
 simp only [fF,A10,A9.no]at *
 refine cD [] Tryz.func45 ?_
 refine aA [] ?_
 refine aA [1] ?_
 refine jG ?_
 refine cU h1 ?_
 refine cU h2 ?_
 refine cU h3 ?_
 refine cU h4 ?_
 refine cU h5 ?_
 refine bC (fun p hp=>by rcases hp with (h|h)|h<;>subst h<;>simp) ?_
 simp (disch:=omega) [gw]
 refine iY (fO.iK (args:=[.ag [.sl t.y, .bool t.s, .sl t.d, .bool t.s', .sl t.d', .bool t.u, .sl t.e, .bool t.u', .sl t.e'], .iK [[.int .i64 0, .int .i64 0, .int .i64 0, .int .i64 0, .int .i64 0,Po [-1,1], .int .i64 (-1)]]]) hB) rfl rfl hp0 GF (by simp [HC,A9.no]) ?_
 simp (disch:=omega) [gw]
 refine bG [1] ?_
 refine jG ?_
 refine iY hX rfl rfl GF D6 (by simp) ?_
 simp (disch:=omega) [gw]
 refine bG [1,2,3] ?_
 refine jG ?_
 refine cU h6 ?_
 refine cU h7 ?_
 refine cU h8 ?_
 refine iY hE rfl rfl D6 D6 (by simp) ?_
 simp (disch:=omega) [gw]
 refine bG [0] ?_
 exact cC
theorem J9{n d n0 d0 an ad bn bd cn cd dn dd tn td:Int}{x y:List Int}{C1 C2:List ZX}{z t:A9}
  (hS:aF env.P 25 [.int .i64 n, .int .i64 d] (R2 tn td))
  (hX0:fO env.P 51 [] 95 12 (co false A9.no true [] 0) (co false A9.no false [] 0) (.dU [.ag (b9 A9.no), .bool false]))
  (hCe:fO env.P 47 [] 95 12 (co false A9.no false [] 0) (co false A9.no false [] 0) (aN lH []))
  (hB:fO env.P 52 [] 95 12 (co false A9.no false [] 0) (co false A9.no false [] 0) (.sl []))
  (RV:fO env.P 49 [] 95 12 (co false A9.no false [] 0) (co false A9.no false [] 0) (.ag (b9 z)))
  (h1:aF env.P 20 [.ag (b9 z)] (.ag (A10 x C1 an ad bn bd))) (h2:aF env.P 12 [.int .i64 0, .int .i64 1] (R2 n0 d0)) (h3:aF env.P 19 [.ag (A10 x C1 an ad bn bd),R2 n0 d0] (.int .i64 0))
  (hT:aF env.P 23 [R2 tn td] (T2 tn td))
  (hGn:tn<0→fO env.P 43 [T2 tn td, .fn 57 []] 95 12 (co false A9.no false [] 0) (co false A9.no false [] 0) (.dU [.int .i64 0, .int .i64 8]))
  (hGp:¬tn<0→fO env.P 43 [T2 tn td, .fn 57 []] 95 12 (co false A9.no false [] 0) (co true t false [] 0) (.dU [.int .i64 0, .int .i64 0]))
  (D5:fO env.P 49 [] 95 12 (co true t false [] 0) (co true t false [] 0) (.ag (b9 t)))
  (h4:aF env.P 20 [.ag (b9 t)] (.ag (A10 y C2 cn cd dn dd))) (h5:aF env.P 19 [.ag (A10 y C2 cn cd dn dd),R2 tn td] (.int .i64 0))
  (hw:aF env.P 45 [] (.bool true)) :
  aF env.P 10 [.int .i64 n, .int .i64 d] (.bool true):=by
 have hp0:=gG false A9.no true [] 0
 have GF:=gG false A9.no false [] 0
 have D6:=gG true t false [] 0
 have hE:fO env.P 44 [] 95 12 (co false A9.no false [] 0) (co false A9.no false [] 0) (.int .i64 0):=uE
 have hE2:fO env.P 44 [] 95 12 (co true t false [] 0) (co true t false [] 0) (.int .i64 0):=uE
 generalize uW:co false A9.no false [] 0=c1 at *
 generalize hc2:co true t false [] 0=c2 at *
 simp only [fF,A10,A9.no]at *
 refine cD [(0, .int .i64 n),(1, .int .i64 d)] Tryz.func10 ?_
 refine aA [0,1] ?_
 refine aA [0,1,5] ?_
 refine aR [5,6] hS ?_
 refine jG ?_
 refine iY hX0 rfl rfl hp0 GF (by simp [HC,A9.no]) ?_
 simp (disch:=omega) [gw]
 refine bG [5,6,8] ?_
 refine W.seq ?_
 refine W.fA (fun σ=>∃(v5 v6:Nat) (rows:Pm.Rows) (clk:Nat),σ=⟨fa [(5, .ptr 5 v5 0 0),(6, .ptr 6 v6 0 0),(37, .bool false)],rows,clk⟩∧rows 5=some ⟨v5,95,12,[c1]⟩∧rows 6=some ⟨v6,31,4,[[aN aI (aU DD tn.natAbs), .bool (decide (tn<0)),aN aI (aU DD td.natAbs), .bool (decide (td<0))]]⟩) (fun K hK=>?_) ?_
 ·simp (disch:=omega) [gw]
  refine iY hCe rfl rfl GF GF (by simp) ?_
  simp (disch:=omega) [gw]
  refine iY hB rfl rfl GF GF (by simp) ?_
  simp (disch:=omega) [gw]
  refine iY hE rfl rfl GF GF (by simp) ?_
  simp (disch:=omega) [gw]
  refine iY RV rfl rfl GF GF (by simp) ?_
  simp (disch:=omega) [gw]
  refine cU h1 ?_
  refine cU h2 ?_
  refine cU h3 ?_
  exact hK _ _ (aB _ [5,6,37]) ⟨_,_,_,_,rfl,by simp,by simp⟩
 rintro _ ⟨v5,v6,rows,clk,rfl,eB,pH⟩
 refine bJ ?_ ?_<;>intro h
 ·simp at h
 refine W.skip ?_
 by_cases ht:tn<0
 ·have hG:=hGn ht
  refine W.sr ?_
  simp (disch:=omega) [gw,pH]
  refine cU hT ?_
  refine iY hG rfl rfl GF GF (by simp [eB]) ?_
  simp (disch:=omega) [gw]
  refine bG [5,6,9,10] ?_
  refine W.seq ?_
  refine W.sr ?_
  simp (disch:=omega) [gw,pH]
  refine bG [5,6,9,10,46] ?_
  refine bJ ?_ ?_<;>intro h
  ·refine aR [4] hw ?_
   exact cC
  ·simp [ht]at h
 ·have hG:=hGp ht
  refine W.sr ?_
  simp (disch:=omega) [gw,pH]
  refine cU hT ?_
  refine iY hG rfl rfl GF D6 (by simp [eB]) ?_
  simp (disch:=omega) [gw]
  refine bG [5,6,9,10] ?_
  refine W.seq ?_
  refine W.sr ?_
  simp (disch:=omega) [gw,pH]
  refine bG [5,6,9,10,46] ?_
  refine bJ ?_ ?_<;>intro h
  ·simp at h;omega
  refine W.skip ?_
  refine nK ?_
  refine xE D5 rfl rfl D6 D6 (by simp) ?_
  simp (disch:=omega) [gw]
  refine aC h4 ?_
  simp (disch:=omega) [gw,pH,RM]
  refine cU h5 ?_
  rw [if_pos (by kernel_rfl)]
  refine xE hE2 rfl rfl D6 D6 (by simp) ?_
  simp (disch:=omega) [gw]
  refine bC (by kernel_rfl) ?_
  simp (disch:=omega) [gw]
  refine cQ [4] hw ?_
  exact cC
theorem aai{q:Rat}{n:Nat}(h:q.num.natAbs≤n):Ab q (n:Rat):=by
 have hd:(1:Rat)≤((q.den:Int):Rat):=eH (by have:=q.den_pos;omega)
 have hq:((q.num:Int):Rat)=q*((q.den:Int):Rat):=by
  have h1:q=(q.num:Rat)/((q.den:Int):Rat):=by
   rw [←Rat.divInt_eq_div,Rat.num_divInt_den]
  have h2:=Rat.div_mul_cancel (a:=(q.num:Rat)) (b:=((q.den:Int):Rat)) (by grind)
  rw [←h1]at h2
  exact h2.symm
 have h3:((q.num:Int):Rat)≤(((n:Int):Int):Rat):=Rat.intCast_le_intCast.2 (by omega)
 have h4:(((-(n:Int)):Int):Rat)≤((q.num:Int):Rat):=Rat.intCast_le_intCast.2 (by omega)
 rw [Rat.intCast_neg]at h4
 have h5:(((n:Int):Int):Rat)=(n:Rat):=Rat.intCast_natCast n
 rw [h5]at h3 h4
 have h6:(0:Rat)≤(n:Rat):=Rat.natCast_nonneg
 generalize ((q.num:Int):Rat)=u at *
 generalize ((q.den:Int):Rat)=v at *
 generalize (n:Rat)=m at *
 have h7:=Rat.mul_le_mul_of_nonneg_left hd h6
 constructor
 ·refine Rat.not_lt.1 fun h=>?_
  have:=Rat.mul_le_mul_of_nonneg_left hd (show 0 ≤ -m-q by grind)
  grind
 ·refine Rat.not_lt.1 fun h=>?_
  have:=Rat.mul_le_mul_of_nonneg_left hd (show 0≤q-m by grind)
  grind
theorem AU(t:Rat):dP t≠0:=(OI t).ne
theorem Bg.dP{a b r:Rat}(fK:a≤b)(h:r<a∨b<r):Bg a b (Go.Proofs.YtiobceocpabjdaaGreat.dP r):=by
 have e1:=fun s=>JN s r
 unfold Go.Proofs.YtiobceocpabjdaaGreat.dP at e1 ⊢
 have hd:(0:Rat)<((r.den:Int):Rat):=Rat.intCast_pos.2 (by have:=r.den_pos;omega)
 simp only [GV]at e1
 refine Bg.lin ?_
 rw [e1 a,e1 b]
 rcases h with h | h
 ·exact .inl ⟨Rat.mul_pos hd (by grind),Rat.mul_pos hd (by grind)⟩
 ·right
  have:=Rat.mul_pos hd (show 0<r-a by grind)
  have:=Rat.mul_pos hd (show 0<r-b by grind)
  exact⟨by grind,by grind⟩
structure Kz(T:List Rat)(p:ZX):Prop where
 RK:T.Pairwise (· < ·)
 ne:p≠0
 hN:ZX.N p=T.length+1
 hn:n1 p≤24^T.length
 rt:∀r∈T,e r p=0
 bg:∀a b,a≤b→(∀r∈T,r<a∨b<r)→Bg a b p
 rng:∀r∈T,r.num.natAbs≤20∧r.den≤3
 mu1:∀q,oL q→mu q p≤1
theorem Kz.nil:Kz [] (of [1]) where
 RK:=.nil
 ne:=ZX.aE.2 (by decide)
 hN:=by decide
 hn:=by decide
 rt:=fun _ h=>by cases h
 bg:=fun _ _ _ _=>Bg.K (c:=1) (by decide)
 rng:=fun _ h=>by cases h
 mu1:=fun q hq=>by
  show mu q (1:ZX)≤1
  rw [I6 hq];decide
theorem aaj{r:Rat}(h:r.num.natAbs≤20∧r.den≤3):n1 (dP r)≤24:=by
 unfold n1
 rw [uS]
 simp only [l1,List.map_cons,List.map_nil,List.sum_cons,List.sum_nil]
 omega
theorem ah7{q:ZX}(hq:oL q)(r:Rat):mu q (dP r)≤1 ∧ ∀p:ZX,p≠0→e r p≠0→1≤mu q (dP r)→mu q p=0:=by
 have l0:=AU r
 refine⟨Nat.not_lt.1 fun h=>?_,fun p hp he h1=>?_⟩
 ·have h1:=(jA hq l0).1 (show 2≤mu q (dP r)by omega)
  have h2:=h1.nD l0
  have h3:=adi hq 2
  rw [lO]at h2
  omega
 ·refine Nat.eq_zero_of_not_pos fun h2=>he ?_
  have e1:q^1=q:=by rw [pow_succ',eK];grind
  have d1:=(jA hq l0).1 h1
  have d2:=(jA hq hp).1 h2
  rw [e1]at d1 d2
  have hN:ZX.N q=2:=by
   have:=d1.nD l0
   rw [lO]at this
   have:=hq.deg
   omega
  obtain⟨c,hc,s,hs⟩:=d1
  have s0:s≠0:=fun h=>by
   rw [h]at hs
   exact ZX.oK (ZX.pB hc) l0 (by rw [hs];grind)
  have hNs:ZX.N s=1:=by
   have:=congrArg ZX.N hs
   rw [ZX.k9 (ZX.pB hc) l0,ZX.k9 s0 hq.ne,hN,lO,ZX.N_K hc]at this
   omega
  have h3:e r s≠0:=fun h=>by
   have:=(JO.1 h).nD s0
   rw [lO]at this
   omega
  have h4:e r q=0:=by
   have:=congrArg (e r) hs
   rw [iJ,iJ,zI,Rat.mul_zero]at this
   rcases Rat.mul_eq_zero.1 this.symm with h | h
   ·exact absurd h h3
   ·exact h
  obtain⟨c',EC,u,hu⟩:=d2
  have:=congrArg (e r) hu
  rw [iJ,iJ,h4,Rat.mul_zero,zV]at this
  rcases Rat.mul_eq_zero.1 this with h | h
  ·exact absurd (by exact_mod_cast h) EC
  ·exact h
theorem Kz.ins{T:List Rat}{p:ZX}(K:Kz T p){r:Rat}(hr:r.num.natAbs≤20∧r.den≤3){k:Nat}(h1:∀x∈T.take k,x<r)(h2:∀x∈T.drop k,r<x):Kz (T.take k++r::T.drop k) (p*dP r):=by
 have oW:∀x,x∈T.take k++r::T.drop k↔x=r∨x∈T:=fun x=>by
  simp only [List.mem_append,List.mem_cons]
  constructor
  ·rintro(h | h | h)
   ·exact .inr (List.mem_of_mem_take h)
   ·exact .inl h
   ·exact .inr (List.mem_of_mem_drop h)
  ·rintro(h | h)
   ·exact .inr (.inl h)
   ·rw [←List.take_append_drop k T]at h
    rcases List.mem_append.1 h with h | h
    ·exact .inl h
    ·exact .inr (.inr h)
 have hlen:(T.take k++r::T.drop k).length=T.length+1:=by
  have:=congrArg List.length (List.take_append_drop k T)
  simp only [List.length_append,List.length_cons]at this ⊢
  omega
 refine⟨?_,ZX.oK K.ne (AU r),?_,?_,fun x hx=>?_,fun a b fK h=>?_,fun x hx=>?_,fun q hq=>?_⟩
 ·have hs:=K.RK
  rw [←List.take_append_drop k T,List.pairwise_append]at hs
  obtain⟨s1,s2,s3⟩:=hs
  rw [List.pairwise_append]
  refine⟨s1,List.pairwise_cons.2 ⟨h2,s2⟩,fun a ha b hb=>?_⟩
  rcases List.mem_cons.1 hb with rfl | hb
  ·exact h1 a ha
  ·exact s3 a ha b hb
 ·rw [ZX.k9 K.ne (AU r),K.hN,lO,hlen]
  omega
 ·rw [hlen,Nat.pow_succ]
  exact Nat.le_trans (aoa _ _) (Nat.mul_le_mul K.hn (aaj hr))
 ·rw [iJ]
  rcases(oW x).1 hx with rfl | hx
  ·rw [JN];grind
  ·rw [K.rt x hx,Rat.zero_mul]
 ·exact(K.bg a b fK fun x hx=>h x ((oW x).2 (.inr hx))).mul (Bg.dP fK (h r ((oW r).2 (.inl rfl))))
 ·rcases(oW x).1 hx with rfl | hx
  ·exact hr
  ·exact K.rng x hx
 ·obtain⟨m1,m2⟩:=ah7 hq r
  rw [rT hq K.ne (AU r)]
  have h3:=K.mu1 q hq
  have he:e r p≠0:=fun h0=>by
   obtain⟨η,h4,h5⟩:=K.bg r r Rat.le_refl fun x hx=>by
    rw [←List.take_append_drop k T]at hx
    rcases List.mem_append.1 hx with hx | hx
    ·exact .inl (h1 x hx)
    ·exact .inr (h2 x hx)
   have:=h5 r Rat.le_refl Rat.le_refl
   rw [h0]at this
   unfold j7 at this
   rcases this with h | h<;>grind
  rcases Nat.eq_zero_or_pos (mu q (dP r))with h4 | h4
  ·omega
  ·have:=m2 p K.ne he h4
   omega
theorem Kz.oz{T:List Rat}{p:ZX}(K:Kz T p):Go.Proofs.YtiobceocpabjdaaGreat.oz (nf p)=Go.Proofs.YtiobceocpabjdaaGreat.sq p:=by
 refine aek (adq (jB K.ne)) (mC K.ne).1 fun q hq=>?_
 rw [aj4 (jB K.ne) hq,VH hq K.ne,(mC K.ne).2 q hq]
 have:=K.mu1 q hq
 omega
theorem p24{k:Nat}(h:k≤4):24^k≤331776:=by
 have:=Nat.pow_le_pow_right (show 0<24 by decide) h
 exact Nat.le_trans this (by decide)
theorem Kz.lay{T:List Rat}{p:ZX}(K:Kz T p)(h:T.length≤4):qL 19 5 p:=by
 have h1:=K.hn
 have h2:=p24 h
 have h3:=K.hN
 have e19:(2:Nat)^19=524288:=by decide
 exact⟨BZ.auG (by omega) (by omega),by decide,by decide,by decide⟩
theorem Kz.iso{T:List Rat}{p:ZX}(K:Kz T p)(h:T.length≤4):pD (qb 19 5) 5 (sq p):=aog (K.lay h) K.ne (by decide) (by decide) (by decide)
theorem Kz.count{T:List Rat}{p:ZX}(K:Kz T p)(h:T.length≤4){a b:Rat}(fK:a<b):vt (bK (sq p)) a=vt (bK (sq p)) b+(T.countP fun r=>decide (a<r∧r≤b)):=by
 have h0:=K.ne
 have hG:=(K.lay h).JM h0 (by decide)
 refine hG.count (K.RK.imp fun h=>Rat.ne_of_lt h) (fun r hr=>(V5 h0).2 (K.rt r hr)) (fun a b fK hr=>?_) fK
 have key:∀a,a<b→(∀r∈T,r<a∨b<r)→vt (bK (sq p)) a=vt (bK (sq p)) b:=fun a fK h=>hG.bg ((K.bg a b (Rat.le_of_lt fK) h).dv (wK h0)) fK
 by_cases h1:e a (sq p)=0
 ·obtain⟨a',q1,q2,q3⟩:=hG.ZN fK h1
  rw [q3]
  rcases Rat.le_iff_lt_or_eq.1 q2 with h2 | rfl
  ·exact key a' h2 fun r sY=>by
    by_cases h3:a<r
    ·exact .inr (hr r sY h3)
    ·left;grind
  ·rfl
 ·refine key a fK fun r sY=>?_
  by_cases h3:a<r
  ·exact .inr (hr r sY h3)
  ·left
   refine Rat.lt_of_le_of_ne (Rat.not_lt.1 h3) fun h4=>h1 ?_
   rw [←h4]
   exact(V5 h0).2 (K.rt r sY)
theorem Kz.range{T:List Rat}{p:ZX}(K:Kz T p):∀r∈T, -20≤r∧r≤20:=fun r hr=>aai (K.rng r hr).1
def KA(T:List Rat)(t:Rat):Nat:=T.countP fun r=>decide (r≤t)
theorem aor{T:List Rat}{t:Rat}:KA T t≤T.length:=List.countP_le_length
theorem Kz.level{T:List Rat}{p:ZX}(K:Kz T p)(h:T.length≤4):(∀t,vt (bK (sq p)) t+KA T t=vt (bK (sq p)) (-g9 (sq p).l))∧vt (bK (sq p)) (g9 (sq p).l)+T.length=vt (bK (sq p)) (-g9 (sq p).l):=by
 have I:=K.iso h
 have hr:=K.range
 have c1:∀t:Rat, -100<t→vt (bK (sq p)) (-100)=vt (bK (sq p)) t+KA T t:=fun t ht=>by
  rw [K.count h ht]
  congr 1
  refine List.countP_congr fun r sY=>?_
  have:=hr r sY
  simp only [decide_eq_true_eq]
  exact⟨fun q=>q.2,fun q=>⟨by grind,q⟩⟩
 have c2:=c1 100 (by decide)
 have e2:KA T 100=T.length:=by
  unfold KA
  rw [List.countP_eq_length]
  intro r sY
  have:=hr r sY
  simp only [decide_eq_true_eq]
  grind
 have c3:=K.count h I.WA
 have c4:(T.countP fun r=>decide (-g9 (sq p).l<r∧r≤g9 (sq p).l))≤T.length:=List.countP_le_length
 have t1:=I.aks (-100)
 have t2:=I.auW 100
 have e3:vt (bK (sq p)) (-100)=vt (bK (sq p)) (-g9 (sq p).l):=by omega
 refine⟨fun t=>?_,by omega⟩
 by_cases ht : -100<t
 ·rw [←e3,c1 t ht]
 ·have a1:=I.S.cR (show t ≤ -100 by grind)
  have a2:=I.aks t
  have a3:KA T t=0:=by
   unfold KA
   rw [List.countP_eq_zero]
   intro r sY
   have:=hr r sY
   simp only [decide_eq_true_eq]
   grind
  omega
theorem AV{t:Rat}:∀ {T:List Rat} {i:Nat},T.Pairwise (· < ·)→i<T.length→(i+1≤KA T t↔nth T i≤t)
 | [],i,_,h=>by simp at h
 | r::T,i,hs,hi=>by
  obtain⟨s1,s2⟩:=List.pairwise_cons.1 hs
  unfold KA
  rw [List.countP_cons]
  by_cases hr:r≤t
  ·rw [if_pos (by simpa using hr)]
   cases i with
   | zero=>exact⟨fun _=>hr,fun _=>by omega⟩
   | succ i =>
    have:=AV (t:=t) s2 (show i<T.length by simpa using hi)
    unfold KA at this
    rw [show nth (r::T) (i+1)=nth T i by simp [nth],←this]
    omega
  ·rw [if_neg (by simpa using hr)]
   have h0:(T.countP fun r=>decide (r≤t))=0:=by
    rw [List.countP_eq_zero]
    intro x hx
    have:=s1 x hx
    simp only [decide_eq_true_eq]
    grind
   rw [h0]
   refine⟨fun h=>by omega,fun h=>absurd h ?_⟩
   have hm:=b7 hi
   rcases List.mem_cons.1 hm with hm | hm
   ·rw [hm];exact hr
   ·have:=s1 _ hm;grind
theorem Kz.len{T:List Rat}{p:ZX}(K:Kz T p)(h:T.length≤4):(JZ (qb 19 5) 5 (sq p)).length=T.length:=by
 have h1:=(K.iso h).ivs.len
 have h2:=(K.level h).2
 omega
theorem Kz.aeD{T:List Rat}{p:ZX}(K:Kz T p)(h:T.length≤4){i:Nat}(hi:i<T.length)(t:Rat):dI (sq p) (nth ((JZ (qb 19 5) 5 (sq p)).map (ex (sq p))) i) t↔nth T i≤t:=by
 have I:=K.iso h
 rw [I.TH i (by rw [K.len h];exact hi),←AV K.RK hi]
 have:=(K.level h).1 t
 omega
end Go.Proofs.YtiobceocpabjdaaGreat
namespace Go.Proofs.YtiobceocpabjdaaGreat
open Go Pm
def O6(c:A9→A9→Int)(x:A9)(l:List A9):A9:=l.foldl (fun b y=>if c y b<0 then y else b) x
theorem WO{c:A9→A9→Int}:∀ {l:List A9} {x:A9},O6 c x l∈x::l
 | [],x=>by simp [O6]
 | y::l,x=>by
  have h:=WO (c:=c) (l:=l) (x:=if c y x<0 then y else x)
  have e:O6 c x (y::l)=O6 c (if c y x<0 then y else x) l:=rfl
  rw [e]
  rcases List.mem_cons.1 h with h | h
  ·rw [h]
   split<;>simp
  ·exact List.mem_cons_of_mem _ (List.mem_cons_of_mem _ h)
theorem aeE{c:A9→A9→Int}{x:A9}{l:List A9}{i:Nat}(h:i<l.length):O6 c x (l.take (i+1))=if c (nth l i) (O6 c x (l.take i))<0 then nth l i else O6 c x (l.take i):=by
 unfold O6
 rw [cB h,List.take_succ_eq_append_getElem h,List.foldl_append]
 rfl
theorem TK{c:A9→A9→Int}{x:A9}{l:List A9}(hl:l.length<1000000)
  (hc:∀y∈l,∀b∈x::l,aF env.P 110 [.ag (b9 y), .ag (b9 b)] (.int .i64 (c y b))) (hf:aF env.P 198 [.ag (b9 (O6 c x l))] (.ag (b9 (O6 c x l)))) :
  aF env.P 112 [aN b9 (x::l)] (.dU [.ag (b9 (O6 c x l)), .bool true]):=by
 simp only [fF]at hc hf ⊢
 refine cD [(0,aN b9 (x::l))] Tryz.func112 ?_
 refine aA [0,2] ?_
 refine aP [0,2,9] ?_
 refine bJ ?_ ?_<;>intro h
 ·simp at h;omega
 refine W.skip ?_
 refine W.sr ?_
 simp (disch:=omega) [gw,fF]
 refine bG [0,2,4] ?_
 refine aP [2,4,15,16,17] ?_
 refine W.block ?_
 refine W.bE (fun k σ=>∃(i v2 v4:Nat) (rows:Pm.Rows) (clk:Nat),σ=⟨fa [(2, .ptr 2 v2 0 0),(4, .ptr 4 v4 0 0),(15,aN b9 l),(16, .int .i64 l.length),(17, .int .i64 i)],rows,clk⟩∧rows 2=some ⟨v2,54,9,[[.nil, .bool false, .nil, .bool false, .nil, .bool false, .nil, .bool false, .nil]]⟩∧rows 4=some ⟨v4,54,9,[b9 (O6 c x (l.take i))]⟩∧i+k=l.length) l.length ?_ ?_
 ·exact⟨_,aB _ [2,4,15,16,17],0,_,_,_,_,rfl,by simp,by simp [O6,fF,show nth (x::l) 0=x from rfl],by omega⟩
 rintro k _ ⟨i,v2,v4,rows,clk,rfl,bS,dS,zT⟩
 refine bV [2,4,15,16,17,18] ?_
 refine bJ ?_ ?_<;>intro h
 ·have hi:i<l.length:=by simp at h;omega
  have hm:O6 c x (l.take i)∈x::l:=by
   rcases List.mem_cons.1 (WO (c:=c) (x:=x) (l:=l.take i))with h | h
   ·rw [h];simp
   ·exact List.mem_cons_of_mem _ (List.mem_of_mem_take h)
  have hC:=hc _ (b7 hi) _ hm
  have i9:=aeE (c:=c) (x:=x) hi
  generalize hw':O6 c x (l.take (i+1))=w' at *
  generalize O6 c x (l.take i)=w at *
  generalize hy:nth l i=y at *
  generalize c y w=z at *
  rw [fF]at dS
  refine W.skip ?_
  refine W.eN (fun σ=>∃(v2 v4:Nat) (rows:Pm.Rows) (clk:Nat),σ=⟨fa [(2, .ptr 2 v2 0 0),(4, .ptr 4 v4 0 0),(15,aN b9 l),(16, .int .i64 l.length),(17, .int .i64 i)],rows,clk⟩∧rows 2=some ⟨v2,54,9,[[.nil, .bool false, .nil, .bool false, .nil, .bool false, .nil, .bool false, .nil]]⟩∧rows 4=some ⟨v4,54,9,[b9 w']⟩) ?_ ?_
  ·refine W.sr ?_
   simp (disch:=omega) [gw,hi,hy,fF]
   refine bG [2,4,6,15,16,17] ?_
   refine W.sr ?_
   simp (disch:=omega) [gw,dS]
   refine cQ [2,4,6,15,16,17,24] hC ?_
   refine bJ ?_ ?_<;>intro h
   ·have hz:z<0:=by simpa using h
    rw [if_pos hz]at i9
    subst i9
    refine W.cA (fun K hK=>?_);simp (disch:=omega) [gw,dS]
    exact hK _ ⟨_,aB _ [2,4,15,16,17],_,_,_,_,rfl,by simp [bS],by simp [fF]⟩
   ·have hz:¬z<0:=by simpa using h
    rw [if_neg hz]at i9
    subst i9
    refine W.skip ?_
    exact⟨_,aB _ [2,4,15,16,17],_,_,_,_,rfl,by simp [bS],by simp [dS,fF]⟩
  rintro _ ⟨v2,v4,rows,clk,rfl,bS,dS⟩
  refine W.cA (fun K hK=>?_);simp (disch:=omega) [gw]
  refine hK _ ⟨k-1,_,aB _ [2,4,15,16,17],by omega,i+1,_,_,_,_,rfl,bS,by rw [hw'];exact dS,by omega⟩
 ·have hi:i=l.length:=by simp at h;omega
  subst hi
  rw [List.take_length,fF]at dS
  refine fH ?_
  refine W.sr ?_
  simp (disch:=omega) [gw,dS]
  refine aC hf ?_
  simp (disch:=omega) [gw,bS]
  refine bG [2,3] ?_
  exact cC
end Go.Proofs.YtiobceocpabjdaaGreat
namespace Go.Proofs.YtiobceocpabjdaaGreat
open Go Pm
open ZX hiding N W
def gA(f:ZX)(p:Rat × Rat):A9:=⟨emap ie f.l,decide (p.1.num<0),emap u32 (aU LL p.1.num.natAbs),decide ((p.1.den:Int)<0),emap u32 (aU LL (p.1.den:Int).natAbs),decide (p.2.num<0),emap u32 (aU LL p.2.num.natAbs),decide ((p.2.den:Int)<0),emap u32 (aU LL (p.2.den:Int).natAbs)⟩
def WQ(x t:Rat):Int:=if x<t then -1 else if t<x then 1 else 0
theorem AW{x t:Rat}:0<WQ x t↔t<x:=by
 unfold WQ
 split
 ·exact⟨fun h=>absurd h (by decide),fun h=>by grind⟩
 ·split
  ·rename_i h;exact⟨fun _=>h,fun _=>by decide⟩
  ·rename_i h;exact⟨fun h1=>absurd h1 (by decide),fun h1=>absurd h1 h⟩
theorem aeF{x t:Rat}:WQ x t=0↔x=t:=by
 unfold WQ
 split
 ·exact⟨fun h=>absurd h (by decide),fun h=>by grind⟩
 ·split
  ·exact⟨fun h=>absurd h (by decide),fun h=>by grind⟩
  ·exact⟨fun _=>by grind,fun _=>rfl⟩
theorem OX(x:Rat):WQ x x=0:=aeF.2 rfl
theorem aeG{U:Rat→Prop}{x:Rat}(h:∀t,U t↔x≤t)(t:Rat):cr U t=WQ x t:=by
 unfold WQ
 split
 ·rename_i h1
  exact(x8 (fun s t hs iQ=>(h t).2 (Rat.le_trans ((h s).1 hs) iQ))).2 ⟨x,h1,(h x).2 Rat.le_refl⟩
 ·split
  ·rename_i h1
   exact x7.2 fun h2=>by have:=(h t).1 h2;grind
  ·have:x=t:=by grind
   subst this
   exact wO.2 ⟨(h x).2 Rat.le_refl,fun s hs hu=>by have:=(h s).1 hu;grind⟩
theorem aos{U V:Rat→Prop}{x y:Rat}(h:∀t,U t↔x≤t)(h':∀t,V t↔y≤t):cu U V=WQ x y:=by
 unfold cu WQ
 have e1:(∃t,U t∧¬V t)↔x<y:=⟨fun⟨t,h1,h2⟩=>by rw [h]at h1;rw [h']at h2;grind,fun r8=>⟨x,(h x).2 Rat.le_refl,fun h2=>by have:=(h' x).1 h2;grind⟩⟩
 have e2:(∃t,V t∧¬U t)↔y<x:=⟨fun⟨t,h1,h2⟩=>by rw [h']at h1;rw [h]at h2;grind,fun r8=>⟨y,(h' y).2 Rat.le_refl,fun h2=>by have:=(h y).1 h2;grind⟩⟩
 by_cases h1:x<y
 ·rw [if_pos h1,if_pos (e1.2 h1)]
 ·rw [if_neg h1,if_neg (fun hh=>h1 (e1.1 hh))]
  by_cases h2:y<x
  ·rw [if_pos h2,if_pos (e2.2 h2)]
  ·rw [if_neg h2,if_neg (fun hh=>h2 (e2.1 hh))]
structure wV(s n u:Nat)(f:ZX)(p:Rat × Rat)(x:Rat):Prop where
 a:AN s n u f p
 v:∀t,dI f p t↔x≤t
namespace wV
section
variable {s n u:Nat} {f:ZX} {p:Rat × Rat} {x:Rat} (A:wV s n u f p x)
include A
theorem fr:aF env.P 198 [.ag (b9 (gA f p))] (.ag (b9 (gA f p))):=aah (wT A.a.I.ch.bz (by have:=A.a.hs;omega) (by have:=A.a.I.lay.hn;omega) A.a.q1 A.a.q2 (by have:=A.a.hu;omega))
theorem least:aF env.P 112 [.sl [b9 (gA f p)]] (.dU [.ag (b9 (gA f p)), .bool true]):=TK (c:=fun _ _=>0) (l:=[]) (by decide) (fun y h=>by cases h) A.fr
theorem fa:aF env.P 20 [.ag (b9 (gA f p))] (QA f (bK f) (ex f p)):=A.a.I.auM A.a.q1 A.a.q2 (by have:=A.a.hu;omega)
theorem pV:SQ u (ex f p).1∧SQ u (ex f p).2:=by
 unfold ex
 split
 ·exact⟨A.a.q2,A.a.q2⟩
 ·exact⟨A.a.q1,A.a.q2⟩
theorem qcr{t:Rat}{v:Nat}(qt:SQ v t)(huv:u≤v)(hv:v≤1000000000):aF env.P 19 [QA f (bK f) (ex f p),RR t] (.int .i64 (WQ x t)):=by
 have h:=AR A.a.A
 have:=A.a.I.DX h.1 (A.pV.1.mono huv) (A.pV.2.mono huv) qt hv
 rwa [aeG (fun t=>(h.2 t).trans (A.v t))]at this
theorem cr{t:Rat}{v:Nat}(qt:SQ v t)(huv:u≤v)(hv:v≤1000000000):aF env.P 111 [.ag (b9 (gA f p)),RT t] (.int .i64 (WQ x t)):=by
 have:=A.a.DX qt huv hv
 rwa [aeG A.v]at this
theorem cmp{s' n' u':Nat}{g:ZX}{q:Rat × Rat}{y:Rat}(B:wV s' n' u' g q y)(c:CpC s n s' n'):aF env.P 110 [.ag (b9 (gA f p)), .ag (b9 (gA g q))] (.int .i64 (WQ x y)):=by
 have:=A.a.azS B.a c
 rwa [aos A.v B.v]at this
end
theorem pt{s n:Nat}{t:Rat}(q:SQ 5 t)(sb:t.num.natAbs≤30∧((t.den:Int)).natAbs≤6)(hs:5≤s)(hn:2≤n)(h1:n≤20)(h2:n+1≤2^s)(h3:(qb s n+n+6)*4^n≤4500000000)(h4:s≤100000):wV s n 7000 (dP t) (t,t) t:=
 ⟨(au1 (OW sb hs hn h1 h2 h3 (by omega)) h4 (by rw [lO];decide) (zI t) (q.mono (by decide)) (by decide)).1,fun _=>p8 rfl _⟩
end wV
theorem TL{t:Rat}{u:Nat}(q:SQ u t)(hu:u≤1000000000):aF env.P 113 [RT t] (.ag (b9 (gA (dP t) (t,t)))):=by
 have h:=ah5 (n:=t.num) (d:=t.den) (sW q hu) (ach (Nat.lt_of_le_of_lt q.nL (by omega)))
 rw [←uS]at h
 exact h
def nA(f:ZX)(L:List (Rat × Rat))(k:Nat):A9:=if k<L.length then gA f (nth L k)else A9.no
theorem aot(f:ZX)(L:List (Rat × Rat))(k:Nat):nxo (nxt f L k) = .dU [.ag (b9 (nA f L k)), .bool (decide (k<L.length))]:=by
 unfold nxt nA
 by_cases h:k<L.length
 ·rw [if_pos h,if_pos h,decide_eq_true h];rfl
 ·rw [if_neg h,if_neg h,decide_eq_false h];rfl
end Go.Proofs.YtiobceocpabjdaaGreat
namespace Go.Proofs.YtiobceocpabjdaaGreat
open Go Pm
open ZX hiding N W
def S19:Nat:=qb 19 5
theorem aou:S19=235:=by decide
noncomputable abbrev wW(p:ZX):List (Rat × Rat):=JZ S19 5 (sq p)
theorem Kz.root{T:List Rat}{p:ZX}(K:Kz T p)(h:T.length≤4){i:Nat}(hi:i<T.length):wV S19 5 (uu S19) (sq p) (nth (wW p) i) (nth T i):=by
 have I:=K.iso h
 have hl:=K.len h
 have hc:=fun t=>K.aeD h hi t
 change pD S19 5 (sq p)at I
 change (wW p).length=_ at hl
 change ∀t,dI (sq p) (nth ((wW p).map (ex (sq p))) i) t↔_ at hc
 have hm:nth (wW p) i∈wW p:=b7 (by omega)
 have e:=aou
 have N5:=I.ch.bz.N
 refine⟨(WM I (by omega) (by have:ZX.N (sq p)≤5:=N5;omega) hm).1,fun t=>?_⟩
 have hx:=(AR (WM I (by omega) (by have:ZX.N (sq p)≤5:=N5;omega) hm).1.A).2 t
 rw [←hc t,DZ (by omega)]
 exact hx.symm
theorem Kz.turns{T:List Rat}{p:ZX}(K:Kz T p)(h:T.length≤4):aF env.P 255 [Po p.l] (aN (ga (sq p)) (wW p)):=by
 have:=aej (K.lay h) K.ne (by decide) (by decide) (by decide)
 rw [K.oz]at this
 exact this
theorem Kz.next{T:List Rat}{p:ZX}(K:Kz T p)(h:T.length≤4){s' n' u':Nat}{g:ZX}{q:Rat × Rat}{x:Rat}(B:wV s' n' u' g q x)(c:CpC S19 5 s' n') :
  aF env.P 206 [Po p.l, .ag (b9 (gA g q))] (.dU [.ag (b9 (nA (sq p) (wW p) (KA T x))), .bool (decide (KA T x<T.length))]):=by
 have hl:(wW p).length=T.length:=K.len h
 have hle:=aor (T:=T) (t:=x)
 have hT:=K.turns h
 have:=TJ (y:=g.l) (an:=q.1.num) (ad:=q.1.den) (bn:=q.2.num) (bd:=q.2.den) (k:=KA T x) hT (by omega) (by omega) (fun i hi=>⟨WQ (nth T i) x,(K.root h (i:=i) (by omega)).cmp B c,fun hh=>by
  have h2:=(AV K.RK (show i<T.length by omega)).1 (show i+1≤KA T x by omega)
  have:=AW.1 hh
  grind⟩) (fun hk=>⟨WQ (nth T (KA T x)) x,(K.root h (i:=KA T x) (by omega)).cmp B c,AW.2 (by
  refine Rat.not_le.1 fun h2=>?_
  have:=(AV K.RK (show KA T x<T.length by omega)).2 h2
  omega)⟩)
 rw [←hl,←aot]
 unfold nxt
 by_cases hk:KA T x<(wW p).length
 ·rw [if_pos hk,decide_eq_true hk]at this
  rw [if_pos hk];exact this
 ·rw [if_neg hk,decide_eq_false hk]at this
  rw [if_neg hk];exact this
end Go.Proofs.YtiobceocpabjdaaGreat
