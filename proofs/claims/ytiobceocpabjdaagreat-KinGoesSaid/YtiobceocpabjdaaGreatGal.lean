import Derived.Test.YtiobceocpabjdaaGreatGak
set_option linter.unusedSimpArgs false
set_option linter.unusedVariables false
namespace Go.Proofs.YtiobceocpabjdaaGreat
open Go Pm
open ZX hiding N W
variable {s n:Nat}{f:ZX}
def lvl(s n:Nat):Nat:=lk s n 5 (s+1)+s+2
theorem LS(hn:n<=20):lvl s n<=102*s+720:=by have h1:(n+n)*(s+5+2+(5+1))<=40*(s+13):=Nat.mul_le_mul aa aa;have h2:(n+n)*(s+1+2)<=40*(s+3):=Nat.mul_le_mul aa aa;have h3:n*(s+1+2)<=20*(s+3):=Nat.mul_le_mul hn aa;unfold lvl lk sk;omega
def uu(s:Nat):Nat:=105*s+800
namespace kS
variable {s n:Nat} {f:ZX} (I:kS s n f)
include I
theorem f0:f.l ≠ []:=te I.nf.ne
theorem rU:1<=(lead f.l).natAbs∧(lead f.l).natAbs<=2^s:=by have h1:=cZ f.c (List.length_pos_iff.2 I.f0);have h2:=iu (b:=2) ar (lead f.l);have h3:=Nat.pow_le_pow_right (show 0<2 by decide) (fU I.ch.bz);omega
theorem anH:1<=gp f.l:=(l9 f.c I.f0 (t:=gp f.l) (.inr Rat.le_refl)).2
theorem Wn:Ab (gp f.l) (2^(s+1)):=by
 have h1:=xy f.c I.f0;have hL:(1:Rat)<=(((lead f.l).natAbs:Int):Rat):=ep (by have:=I.rU.1;omega);have h2:=Rat.div_mul_cancel (a:=((kG f.l (f.l.length-1):Int):Rat)) (b:=(((lead f.l).natAbs:Int):Rat)) aG;have h3:=I.anH;have h4:((kG f.l (f.l.length-1):Int):Rat)<=2^s:=by have h5:=iu (b:=2) ar (kG f.l (f.l.length-1));have h6:=Nat.pow_le_pow_right (show 0<2 by decide) (uz I.ch.bz (f.l.length-1));exact(DY (s:=s) aa).2
 have h7:=pE s;rw [Rat.pow_succ];generalize (2:Rat)^s=T,((kG f.l (f.l.length-1):Int):Rat)=m at *;have hw:m/(((lead f.l).natAbs:Int):Rat)<=T:=by refine Rat.not_lt.1 fun h=>?_;have h8:=Rat.mul_le_mul_of_nonneg_left hL (show 0<=m/(((lead f.l).natAbs:Int):Rat)by grind);grind
 exact⟨aG,aG⟩
theorem xC:Gr (lead f.l).natAbs (2^(s+1)) 0 (gp f.l):=by refine⟨⟨((lead f.l).natAbs:Int)+kG f.l (f.l.length-1),?_⟩,I.Wn⟩;have hL:(1:Rat)<=(((lead f.l).natAbs:Int):Rat):=ep (by have:=I.rU.1;omega);have h1:=xy f.c I.f0;have h2:=Rat.div_mul_cancel (a:=((kG f.l (f.l.length-1):Int):Rat)) (b:=(((lead f.l).natAbs:Int):Rat)) aG;rw [Nat.pow_zero,Nat.mul_one,Rat.intCast_add,h1];grind
theorem zG:Gr (lead f.l).natAbs (2^(s+1)) 0 (-gp f.l):=by obtain⟨⟨z,hz⟩,h1,h2⟩:=I.xC;exact⟨⟨-z,by rw [Rat.intCast_neg,<-hz];grind⟩,aG,aG⟩
theorem count:(vr (Rf (aH f)):Int)-vr (Rg (aH f))=(vt (aH f) (-gp f.l):Int)-vt (aH f) (gp f.l):=by
 have hG:=I.FI;have h1:vr (Rg (aH f))=vt (aH f) (gp f.l):=LG hG fun b=>⟨1,ar,fun x h2 _=>(l9 f.c I.f0 (.inr h2)).1⟩
 have h2:vr (Rf (aH f))=vt (aH f) (-gp f.l):=Ro hG fun b=>⟨1,ar,fun x _ h2=>(l9 f.c I.f0 (.inl h2)).1⟩
 rw [h1,h2]
theorem IP : -gp f.l<gp f.l:=by have:=I.anH;grind
end kS
def BO(s n:Nat)(f:ZX):List (Rat × Rat):=Cd (vt (aH f)) (lvl s n) (-gp f.l) (gp f.l)
structure Ivs(f:ZX)(u:Nat)(lo hi:Rat)(l:List (Rat × Rat)):Prop where
 mem:∀p∈l,SQ u p.1∧SQ u p.2∧lo<=p.1∧p.1<p.2∧p.2<=hi∧vt (aH f) p.1=vt (aH f) p.2+1
 len:l.length=vt (aH f) lo-vt (aH f) hi
 xY:l.Pairwise fun p q=>p.2<=q.1
theorem kS.width(I:kS s n f){δ:Rat}(hδ:δ*2^lk s n 5 (s+1)=1):gp f.l - -gp f.l<=δ*2^lvl s n:=by have h1:=I.Wn.2;unfold lvl;rw [show lk s n 5 (s+1)+s+2=lk s n 5 (s+1)+(s+1+1)by omega,og,<-Rat.mul_assoc,hδ,Rat.one_mul,Rat.pow_succ];grind
theorem kS.ivs(I:kS s n f):Ivs f (uu s) (-gp f.l) (gp f.l) (BO s n f):=by obtain⟨δ,h1,h2,C⟩:=I.cut (s+1);have hl:=LS (s:=s) I.ch.hn;obtain⟨a1,a2,a3⟩:=nR C (lvl s n) 0 _ _ I.zG I.xC I.IP (I.width h2);refine⟨fun p hp=>?_,a2,a3⟩;obtain⟨b1,b2,b3⟩:=a1 p hp;obtain⟨l1,l2⟩:=I.rU;exact⟨(b1.sq l1 l2).mono (by unfold uu;omega),(b2.sq l1 l2).mono (by unfold uu;omega),b3⟩
theorem wk(I:kS s n f):(BO s n f).length<=21:=by have:=I.ivs.len;have h1:=Nat.le_trans (V5 (aH f) (-gp f.l)) I.hl;omega
theorem LU{α:Type}{g:α->List PV}{l:List α}(hS:aj 70 [aw g l] (Po f.l))(I:kS s n f):aj 18 [aw g l] (.cW [aw (ga f) (BO s n f),ae 0]):=by
 have hs:=I.hs;have hn:=I.ch.hn;have N1:=FF hS I.ch I.nf;have P1:=dW (x:=f.l) (I.ch.bz.pb aa aa);rw [f.c]at P1;have B1:=LH P1 f.c I.f0 (Gw I.ch.bz) aa aa;obtain⟨l1,l2⟩:=I.rU;have qb:=(I.xC.sq l1 l2).mono (show s+1+s+0+1<=uu s by unfold uu;omega);have hu:uu s<=1000000000:=by unfold uu;omega
 have M1:=Rp (qb.LLt (show uu s<1099511627770 by omega));have C1:=Lz (c:=aH f) (by have:=I.hl;omega) (pbs I.hb hn);rw [I.count]at C1;obtain⟨δ,h1,h2,C⟩:=I.cut (s+1);have hl:=LS (s:=s) hn;have R1:=Wh I l1 l2 C (J:=lvl s n) aa (lvl s n) 0 _ _ aa I.zG I.xC I.IP (I.width h2);rw [show Cd (vt (aH f)) (lvl s n) (-gp f.l) (gp f.l)=BO s n f from rfl]at R1;have hlen:=wk I;have el:(emap (ga f) (BO s n f)).length<=21:=by simpa [emap]using hlen
 have pe:=FV (f:=f) (l:=BO s n f);have a1:bC 9 (emap (ga f) (BO s n f))=True:=xB
 replace B1:aj 71 [Po f.l] (.cW [T2 (gp f.l).num (gp f.l).den,ae 0]):=B1
 replace M1:aj 73 [T2 (gp f.l).num (gp f.l).den] (T2 (-gp f.l).num (-gp f.l).den):=M1
 replace R1:gS env.P 72 [Po f.l,CH (aH f),T2 (-gp f.l).num (-gp f.l).den,T2 (gp f.l).num (gp f.l).den,ae ((vt (aH f) (-gp f.l):Int)-vt (aH f) (gp f.l))] 54 9 (emap (ga f) (BO s n f)):=R1
 generalize BO s n f=L,(vt (aH f) (-gp f.l):Int)-vt (aH f) (gp f.l)=cn at *;generalize aH f=c,(-gp f.l).num=mn,((-gp f.l).den:Int)=md at *;generalize (gp f.l).num=bn,((gp f.l).den:Int)=bd at *;apply bL [(0,aw g l)] Tryz.func18;apply fk [0] N1 [0,4,5]
 apply cS [0,4,5,15]<;>intro h
 ·simp at h
 apply rf hS [4,6];apply gT B1 [4,6,7];apply W.sd;apply eO M1 C1;apply (cp);refine xU R1 rfl trivial ?_;apply bM [2,3];refine W.ET 31 av fun K hK=>?_;simp;refine hK _ ?_;exact gK
theorem LV{x:List Int}(hS:aj 158 [PI x] (PI f.l))(hC:aj 81 [PI x] (aw zq (aH f)))(I:kS s n f)(ni:1<=s):aj 101 [PI x] (aw (qa f (aH f)) ((BO s n f).map (ex f))):=by have hs:=I.hs;have hn:=I.ch.hn;have B1:=LJ f.c I.f0 I.ch.bz ni aa aa;obtain⟨l1,l2⟩:=I.rU;have M1:=A6 (gp f.l);obtain⟨δ,h1,h2,C⟩:=I.cut (s+1);have hl:=LS (s:=s) hn;have R1:=Ru I l1 l2 C (J:=lvl s n) aa (lvl s n) 0 _ _ aa I.zG I.xC I.IP (I.width h2);rw [show Cd (vt (aH f)) (lvl s n) (-gp f.l) (gp f.l)=BO s n f from rfl]at R1;have hlen:=wk I;rw [bW]at B1 M1;rw [bW]at M1;simp only [bW]at R1;generalize (BO s n f).map (ex f)=L,aH f=c,(-gp f.l).num=mn,((-gp f.l).den:Int)=md at *;generalize (gp f.l).num=bn,((gp f.l).den:Int)=bd at *;apply bL [(0,PI x)] Tryz.func101;apply fk [0] hS [0,3];apply gT hC [3,4];apply gT B1 [3,4,5];apply W.sd;apply my M1;refine xU R1 rfl trivial ?_;apply bM [2];refine W.ET 17 av fun K hK=>?_;simp;refine hK _ ?_;exact gK
end Go.Proofs.YtiobceocpabjdaaGreat
namespace Go.Proofs.YtiobceocpabjdaaGreat
open Go Pm
open ZX hiding N W
variable {u:Nat}{p:Rat × Rat}{q:Rat}{f:ZX}
abbrev GA(f:ZX)(p:Rat × Rat):PV:=.ag (ga f p)
namespace kS
variable {s n:Nat} {f:ZX} (I:kS s n f)
include I
theorem anJ:aj 79 [Po f.l] (PI f.l):=by have hs:=I.hs;have hn:=I.ch.hn;have b:=Gw I.ch.bz;have:=Qx (f.l.map qA) ⟨fun c hc=>by simp only [List.mem_map]at hc;obtain⟨x,hx,rfl⟩:=hc;exact⟨fy fV _,Nat.lt_of_le_of_lt (b.sz x hx) aa⟩,by rw [List.length_map];exact Nat.lt_of_le_of_lt b.len aa⟩;rw [bY,<-iA,show aK f.l=f.l from f.c]at this;exact this
theorem anK:aj 78 [PI f.l] (PI f.l):=by have:=kE I.ch.bz I.s1 (by have:=I.hs;show s<=137438953472;omega) (by have:=I.ch.hn;omega);rwa [I.nf.XO]at this
theorem OE:aj 158 [PI f.l] (PI f.l):=by have:=vT I.lay I.s1;rwa [I.sq]at this
theorem xD:aj 81 [PI f.l] (aw zq (aH f)):=yp I.OE I.ch I.s1
theorem aaE:aj 70 [Po f.l] (Po f.l):=by have:=ug I.lay;rwa [I.sq]at this
theorem anL{t:Rat}(q:SQ u t)(hu:u<=1000000000):aj 77 [PI f.l,RR t] (ae (bU (e t f))):=by have hs:=I.hs;have hn:=I.ch.hn;have hmul:n*(u+1)<=20*(u+1):=Nat.mul_le_mul_right _ hn;have s1:=sO I.ch.bz q.n2 q.d2 q.hu aa (by show _<137438953472;omega);rw [vZ]at s1;rw [bW];exact s1
theorem oP{p:Rat}(hp:SQ u p)(hq:SQ u q)(hu:u<=1000000000):aj 76 [aw zq (aH f),RR p,RR q] (ae (if q<p then 0 else(vt (aH f) p:Int)-vt (aH f) q)):=LO I.hb I.ch.hn I.hl hp hq hu
theorem Wo(q1:SQ u p.1)(q2:SQ u p.2)(hu:u<=1000000000):aj 80 [QA f (aH f) p] (QA f (aH f) (ex f p)):=D3 (I.ch.bz.mono (by have:=I.hs;omega) (Nat.le_refl _)) I.ch.hn q1 q2 hu
end kS
theorem SQ.adr(h:SQ u q)(hu:u<=1000000000):aj 82 [RT q] (RR q):=Rq (h.LLt aa) ⟨by have:=h.n2;show _<549755813888;omega,by have:=h.d2;show _<549755813888;omega⟩
theorem kS.ads{s n:Nat}(I:kS s n f)(q1:SQ u p.1)(q2:SQ u p.2)(hu:u<=1000000000):aj 20 [GA f p] (QA f (aH f) (ex f p)):=by
 have f1:=I.anJ;have f2:=I.anK;have f3:=I.xD;have f4:=q1.adr hu;have f5:=q2.adr hu;have f6:=I.Wo q1 q2 hu;generalize ex f p=y at *;rw [bW]at f4 f5;rw [mU,mU]at f6;rw [mU]
 replace f4:aj 82 [T2 p.1.num p.1.den] (R2 p.1.num p.1.den):=f4
 replace f5:aj 82 [T2 p.2.num p.2.den] (R2 p.2.num p.2.den):=f5
 show aj _ [.ag (Po f.l::(tc p.1++tc p.2))] _;simp only [c4,tc,List.cons_append,List.nil_append]at f6 |-;generalize aH f=c,p.1.num=an,(p.1.den:Int)=ad,p.2.num=bn,(p.2.den:Int)=bd,y.1.num=yn,(y.1.den:Int)=yd,y.2.num=zn,(y.2.den:Int)=zd at *;apply bL [(0, .ag [Po f.l, .bool (decide (an<0)),us (aI LL an.natAbs), .bool (decide (ad<0)),us (aI LL ad.natAbs), .bool (decide (bn<0)),us (aI LL bn.natAbs), .bool (decide (bd<0)),us (aI LL bd.natAbs)])] Tryz.func20;apply aR [1,2];apply kh f1 f2;apply bM [1,2,3];apply W.sd;apply eO f3 f4;apply eO f5 f6;apply (cp)
 (try (refine aM (of_decide_eq_true bX) ?_));(try simp (maxSteps:=4000000) (disch:=omega) [gw]);(repeat rw [if_pos bX]);(try simp (maxSteps:=4000000) (disch:=omega) [gw])
 exact qi [2]
theorem lJ{c:List ZX}(q1:SQ u p.1)(q2:SQ u p.2)(hu:u<=1000000000):aj 75 [QA f c p] (.bool (decide (p.1=p.2))):=by
 have c1:=ll p.1 p.2 (q1.yy hu) (q2.yy hu);have e:decide (p.1=p.2)=(dc (p.1.num*p.2.den) (p.2.num*p.1.den)==0):=by rw [Bool.eq_iff_iff];simp only [decide_eq_true_eq,beq_iff_eq];exact j8.symm
 rw [e,mU];rw [bW,bW]at c1;simp only [c4,List.cons_append,List.nil_append];generalize dc (p.1.num*p.2.den) (p.2.num*p.1.den)=z at *;generalize p.1.num=an,(p.1.den:Int)=ad,p.2.num=bn,(p.2.den:Int)=bd at *;apply bL [(0, .ag [PI f.l,aw zq c,aw ay (aI DD an.natAbs), .bool (decide (an<0)),aw ay (aI DD ad.natAbs), .bool (decide (ad<0)),aw ay (aI DD bn.natAbs), .bool (decide (bn<0)),aw ay (aI DD bd.natAbs), .bool (decide (bd<0))])] Tryz.func75;apply fk [1] c1 [2];exact gK
end Go.Proofs.YtiobceocpabjdaaGreat
namespace Go.Proofs.YtiobceocpabjdaaGreat
open Go Pm List
open ZX hiding N W
variable {p:Rat × Rat}{q t a lo hi iQ iK:Rat}{x:List Int}{c:List ZX}{an ad bn bd b:Int}{s n u l β:Nat}{f h g:ZX}{w v γ φ:Rat->Nat}{U U':Rat->Prop}
theorem fE{p:Rat}:0<dc (p.num*q.den) (q.num*p.den)↔q<p:=by rw [k8,<-jF q p,kZ]
theorem fF{p:Rat}:dc (p.num*q.den) (q.num*p.den)<0↔p<q:=jF p q
theorem je{p:Rat}:dc (p.num*q.den) (q.num*p.den)<=0↔p<=q:=by rw [<-Int.not_lt,fE,Rat.not_lt]
theorem IQ{tn td zt z1 z2 σ r:Int}{pt:Bool}(p1:aj 75 [.ag (PI x::aw zq c::(c4 an ad++c4 bn bd))] (.bool pt))(k0:aj 14 [R2 an ad,R2 tn td] (ae zt))
  (k1:aj 14 [R2 tn td,R2 an ad] (ae z1)) (k2:aj 14 [R2 tn td,R2 bn bd] (ae z2)) (k3:aj 76 [aw zq c,R2 an ad,R2 tn td] (ae b)) (k4:aj 77 [PI x,R2 tn td] (ae σ))
  (hr:r=if pt=true then zt else if z1<=0 then 1 else if 0<z2 then -1 else if b=0 then 1 else if σ=0 then 0 else -1):aj 19 [.ag (PI x::aw zq c::(c4 an ad++c4 bn bd)),R2 tn td] (ae r):=by
 simp only [c4,cons_append,nil_append]at p1 |-;apply bL [(0, .ag [PI x,aw zq c,aw ay (aI DD an.natAbs), .bool (decide (an<0)),aw ay (aI DD ad.natAbs), .bool (decide (ad<0)),aw ay (aI DD bn.natAbs), .bool (decide (bn<0)),aw ay (aI DD bd.natAbs), .bool (decide (bd<0))]),(1,R2 tn td)] Tryz.func19;apply fB [2,3]
 apply fH p1 [2,3,6]<;>intro h
 ·subst h;rw [if_pos rfl]at hr;subst hr;exact yN k0 [4]
 ·subst h;rw [if_neg ar]at hr;apply (jm)
  apply fH k1 [2,3,15]<;>intro h
  ·simp at h;rw [if_pos h]at hr;subst hr;exact dS [4]
  ·simp at h;rw [if_neg aa]at hr;apply (jm)
   apply fH k2 [2,3,20]<;>intro h
   ·simp at h;rw [if_pos h]at hr;subst hr;exact dS [4]
   ·simp at h;rw [if_neg aa]at hr;apply (jm)
    apply fH k3 [2,3,27]<;>intro h
    ·simp at h;rw [if_pos h]at hr;subst hr;exact dS [4]
    ·simp at h;rw [if_neg h]at hr;apply (jm)
     apply fH k4 [32]<;>intro h
     ·simp at h;rw [if_pos h]at hr;subst hr;exact dS [4]
     ·simp at h;rw [if_neg h]at hr;subst hr;apply W.skip;exact dS [4]
abbrev bk(f:ZX)(p:Rat × Rat):Rat->Prop:=fS (vt (aH f)) p.1 p.2
theorem kS.om(I:kS s n f)(A:j7 f (vt (aH f)) p.1 p.2)(q1:SQ u p.1)(q2:SQ u p.2)(qt:SQ u t)(hu:u<=1000000000):aj 19 [QA f (aH f) p,RR t] (ae (cr (bk f p) t)):=by
 have p1:=lJ (f:=f) (c:=aH f) q1 q2 hu;have k0:=ll p.1 t (q1.yy hu) (qt.yy hu);have k1:=ll t p.1 (qt.yy hu) (q1.yy hu);have k2:=ll t p.2 (qt.yy hu) (q2.yy hu);have k3:=I.oP q1 qt hu;have k4:=I.anL qt hu;have hc:=A.anE t;rw [bW,bW]at k0 k1 k2;rw [bW,bW]at k3;rw [bW]at k4 |-;rw [mU]at p1 |-;refine IQ p1 k0 k1 k2 k3 k4 ?_;rw [hc];simp only [decide_eq_true_eq]
 by_cases h1:p.1=p.2
 ·rw [if_pos h1,if_pos h1]
  by_cases h2:p.1<t
  ·rw [if_pos h2,kK (kZ.1 (fF.2 h2))]
  ·rw [if_neg h2]
   by_cases h3:t<p.1
   ·rw [if_pos h3,kN (k8.1 (fE.2 h3))]
   ·rw [if_neg h3,j8.2 aG]
 ·rw [if_neg h1,if_neg h1];simp only [je,fE]
  by_cases h2:t<=p.1
  ·rw [if_pos h2,if_pos h2]
  ·rw [if_neg h2,if_neg h2]
   by_cases h3:p.2<t
   ·rw [if_pos h3,if_pos h3]
   ·rw [if_neg h3,if_neg h3,if_neg (show ¬t<p.1 by grind)];have e1:((vt (aH f) p.1:Int)-vt (aH f) t=0)↔vt (aH f) p.1=vt (aH f) t:=aa;simp only [e1,eo]
def hv(f:ZX)(p:Rat × Rat):Rat × Rat:=if p.1=p.2 then p else ex f (if vt (aH f) ((p.1+p.2)/2)<vt (aH f) p.1 then(p.1,(p.1+p.2)/2)else((p.1+p.2)/2,p.2))
theorem IU(p1:aj 75 [.ag (PI x::aw zq c::(c4 an ad++c4 bn bd))] (.bool true)):aj 117 [.ag (PI x::aw zq c::(c4 an ad++c4 bn bd))] (.ag (PI x::aw zq c::(c4 an ad++c4 bn bd))):=by
 simp only [c4,cons_append,nil_append]at p1 |-;apply bL [(0, .ag [PI x,aw zq c,aw ay (aI DD an.natAbs), .bool (decide (an<0)),aw ay (aI DD ad.natAbs), .bool (decide (ad<0)),aw ay (aI DD bn.natAbs), .bool (decide (bn<0)),aw ay (aI DD bd.natAbs), .bool (decide (bd<0))])] Tryz.func117;apply fB [1,2]
 apply fH p1 [1,2,5]<;>intro h
 ·exact dS [2]
 ·simp at h
theorem IW{mn md yn yd zn zd:Int}(p1:aj 75 [.ag (PI x::aw zq c::(c4 an ad++c4 bn bd))] (.bool false))(k1:aj 204 [R2 an ad,R2 bn bd] (R2 mn md))(k2:aj 76 [aw zq c,R2 an ad,R2 mn md] (ae b))
  (k3:aj 80 [.ag (PI x::aw zq c::(if 0<b then c4 an ad++c4 mn md else c4 mn md++c4 bn bd))] (.ag (PI x::aw zq c::(c4 yn yd++c4 zn zd)))):aj 117 [.ag (PI x::aw zq c::(c4 an ad++c4 bn bd))] (.ag (PI x::aw zq c::(c4 yn yd++c4 zn zd))):=by
 simp only [c4,cons_append,nil_append]at p1 k3 |-;apply bL [(0, .ag [PI x,aw zq c,aw ay (aI DD an.natAbs), .bool (decide (an<0)),aw ay (aI DD ad.natAbs), .bool (decide (ad<0)),aw ay (aI DD bn.natAbs), .bool (decide (bn<0)),aw ay (aI DD bd.natAbs), .bool (decide (bd<0))])] Tryz.func117;apply fB [1,2]
 apply fH p1 [1,2,5]<;>intro h
 ·simp at h
 apply rf k1 [1,2,3]
 by_cases hb:0<b
 ·rw [if_pos hb]at k3
  refine W.fR (fun σ=>∃(v1 v2:Nat),aQ σ [(1, .ptr 1 v1 0 0),(2, .ptr 2 v2 0 0)] fun rows clk=>rows 1=some ⟨v1,49,10,[[PI x,aw zq c,aw ay (aI DD an.natAbs), .bool (decide (an<0)),aw ay (aI DD ad.natAbs), .bool (decide (ad<0)),aw ay (aI DD mn.natAbs), .bool (decide (mn<0)),aw ay (aI DD md.natAbs), .bool (decide (md<0))]]⟩∧rows 2=some ⟨v2,49,10,[[PV.nil,PV.nil,PV.nil,PV.bool false,PV.nil,PV.bool false,PV.nil,PV.bool false,PV.nil,PV.bool false]]⟩) ?_ ?_
  ·apply fH k2 [1,2,3,18]<;>intro h
   ·refine bB fun K hK=>?_;exact hK _ ⟨_,ak _ [1,2],_,_,_,_,rfl,av,av⟩
   ·simp at h;omega
  rintro _ ⟨v1,v2,rows,clk,rfl,tB,bE⟩;apply lG tB bE k3;exact AB tB bE [2]
 ·rw [if_neg hb]at k3
  refine W.fR (fun σ=>∃(v1 v2:Nat),aQ σ [(1, .ptr 1 v1 0 0),(2, .ptr 2 v2 0 0)] fun rows clk=>rows 1=some ⟨v1,49,10,[[PI x,aw zq c,aw ay (aI DD mn.natAbs), .bool (decide (mn<0)),aw ay (aI DD md.natAbs), .bool (decide (md<0)),aw ay (aI DD bn.natAbs), .bool (decide (bn<0)),aw ay (aI DD bd.natAbs), .bool (decide (bd<0))]]⟩∧rows 2=some ⟨v2,49,10,[[PV.nil,PV.nil,PV.nil,PV.bool false,PV.nil,PV.bool false,PV.nil,PV.bool false,PV.nil,PV.bool false]]⟩) ?_ ?_
  ·apply fH k2 [1,2,3,18]<;>intro h
   ·simp at h;omega
   ·refine bB fun K hK=>?_;exact hK _ ⟨_,ak _ [1,2],_,_,_,_,rfl,av,av⟩
  rintro _ ⟨v1,v2,rows,clk,rfl,tB,bE⟩;apply lG tB bE k3;exact AB tB bE [2]
theorem kS.Wp(I:kS s n f)(hle:p.1<=p.2)(q1:SQ u p.1)(q2:SQ u p.2)(q3:SQ u ((p.1+p.2)/2))(q4:SQ u (p.1+p.2))(hu:u<=1000000000):aj 117 [QA f (aH f) p] (QA f (aH f) (hv f p)):=by
 have p1:=lJ (f:=f) (c:=aH f) q1 q2 hu
 by_cases h:p.1=p.2
 ·rw [decide_eq_true h]at p1;rw [show hv f p=p from if_pos h,mU];rw [mU]at p1;exact IU p1
 ·rw [decide_eq_false h]at p1;have bZ:p.1<p.2:=aG;obtain⟨m1,m2⟩:=oh bZ;have k1:=II (q1.yy hu) (q2.yy hu) (q4.yy hu);have k2:=I.oP q1 q3 hu;rw [if_neg (Rat.not_lt.2 (Rat.le_of_lt m1))]at k2;have e:hv f p=ex f (if vt (aH f) ((p.1+p.2)/2)<vt (aH f) p.1 then(p.1,(p.1+p.2)/2)else((p.1+p.2)/2,p.2)):=if_neg h;rw [e];have hb:(0<(vt (aH f) p.1:Int)-vt (aH f) ((p.1+p.2)/2))↔vt (aH f) ((p.1+p.2)/2)<vt (aH f) p.1:=aa;have k3:=I.Wo (u:=u) (p:=if vt (aH f) ((p.1+p.2)/2)<vt (aH f) p.1 then(p.1,(p.1+p.2)/2)else((p.1+p.2)/2,p.2)) (by split<;>assumption) (by split<;>assumption) hu;rw [bW,bW]at k1 k2;rw [bW]at k1;rw [mU]at p1 |-;rw [mU];refine IW p1 k1 k2 ?_
  by_cases h2:vt (aH f) ((p.1+p.2)/2)<vt (aH f) p.1
  ·rw [if_pos (hb.2 h2)];rw [if_pos h2]at k3 |-;exact k3
  ·rw [if_neg (fun h3=>h2 (hb.1 h3))];rw [if_neg h2]at k3 |-;exact k3
theorem OG(A:j7 f (vt (aH f)) p.1 p.2):j7 f (vt (aH f)) (hv f p).1 (hv f p).2 ∧ ∀t,bk f (hv f p) t↔bk f p t:=by
 unfold hv
 split
 ·exact⟨A,fun _=>Iff.rfl⟩
 ·rename_i h;have bZ:p.1<p.2:=by have:=A.le;grind
  obtain⟨m1,m2⟩:=oh bZ;obtain⟨h1,h2⟩:=A.half m1 m2
  have key:∀q:Rat × Rat,j7 f (vt (aH f)) q.1 q.2->(∀t,bk f q t↔bk f p t)->j7 f (vt (aH f)) (ex f q).1 (ex f q).2 ∧ ∀t,bk f (ex f q) t↔bk f p t:=fun q hq hc=>by
   unfold ex
   split
   ·rename_i h0;obtain⟨g1,g2⟩:=hq.exact h0;exact⟨g1,fun t=>(g2 t).trans (hc t)⟩
   ·exact⟨hq,hc⟩
  split
  ·rename_i h3;obtain⟨g1,g2⟩:=h1 h3;exact key (p.1,(p.1+p.2)/2) g1 g2
  ·rename_i h3;obtain⟨g1,g2⟩:=h2 h3;exact key ((p.1+p.2)/2,p.2) g1 g2
theorem mc(A:j7 f (vt (aH f)) p.1 p.2):j7 f (vt (aH f)) (ex f p).1 (ex f p).2 ∧ ∀t,bk f (ex f p) t↔bk f p t:=by
 unfold ex
 split
 ·rename_i h0;exact A.exact h0
 ·exact⟨A,fun _=>Iff.rfl⟩
theorem rV(h0:f≠0)(hc:rS f (bQ f))(hN:ZX.N f<=20):pF f (vt (aH f)):=by
 have hg:gz f (bQ f)=1:=(yj (.inl h0)).N1 (hc _ (ek _ _).l (ek _ _).r);refine⟨h0,hc,_,⟨fun B hB=>?_⟩,rfl⟩;obtain⟨s,hs⟩:=BK f.l;obtain⟨β,hβ⟩:=IJ B;have hb:BZ (s+1+5) 20 f:=⟨hN,fun c hc=>dp ar (by have h1:=hs c hc;have h2:2^s<2^(s+1+5):=Nat.pow_lt_pow_right ar aa;omega)⟩
 have hb0:BZ (s+1) 20 f:=⟨hN,fun c hc=>dp ar (by have h1:=hs c hc;have h2:2^s<2^(s+1):=Nat.pow_lt_pow_right ar aa;omega)⟩
 have bd:BZ (s+1+5) 20 (bQ f):=hb0.bQ ar;have hND:=mL f;have hP1:ZX.N (qf (bQ f))<=ZX.N (bQ f):=lj _;obtain⟨δ,h1,h2⟩:=BL (jb ((s+1+5+20+1)*2*4^20) 20 β);refine⟨δ,h1,XQ.mono (Ow (s:=s+1) (n:=20) ar h0 hb ?_ (jc bd) hg (by rw [h2];exact Rat.le_refl)) hβ⟩;unfold ym
 split
 ·have:(4:Nat)^ZX.N f<=4^20:=Nat.pow_le_pow_right ar hN;exact Nat.mul_le_mul aa this
 ·have:(4:Nat)^ZX.N (qf (bQ f))<=4^20:=Nat.pow_le_pow_right ar aa;exact Nat.mul_le_mul (Nat.le_refl _) this
structure lK(f h g w:ZX):Prop where
 eq:f=w*g
 ng:Nf g
 nw:Nf w
 wg:rS w g
 wh:rS w h
 gd:dv g h
 sg:rS g (bQ g)
 sw:rS w (bQ w)
theorem j9(nf:Nf f)(hc:rS f (bQ f)):∃w,lK f h (gz f h) w:=by
 have ng:Nf (gz f h):=yj (.inl nf.ne);obtain⟨w,nw,e⟩:=nf.quo ng (ek f h).l;have hd:bQ f=bQ w*gz f h+w*bQ (gz f h):=by have h1:=congrArg bQ e;rwa [sI]at h1
 have dwf:dv w f:=by rw [e];exact(dv.refl w).mul_right _
 have dgf:dv (gz f h) f:=(ek f h).l;have wg:rS w (gz f h):=fun d h1 h2=>hc d (h1.trans dwf) (by rw [hd];exact(h2.mul_left _).add (h1.mul_right _))
 exact⟨w,e,ng,nw,wg,fun d h1 h2=>wg d h1 ((ek f h).least (h1.trans dwf) h2),(ek f h).r,
  fun d h1 h2=>hc d (h1.trans dgf) (by rw [hd];exact(h1.mul_left _).add (h2.mul_left _)),fun d h1 h2=>hc d (h1.trans dwf) (by rw [hd];exact(h2.mul_right _).add (h1.mul_right _))⟩
theorem lK.N{w:ZX}(S:lK f h g w):ZX.N w<=ZX.N f∧ZX.N g<=ZX.N f:=by have h1:=i9 S.nw.ne S.ng.ne;rw [<-S.eq]at h1;have:=ZX.ax.1 S.nw.ne;have:=ZX.ax.1 S.ng.ne;omega
theorem lK.BP{w:ZX}(S:lK f h g w)(hv:pF f v)(hg:pF g γ)(hw:pF w φ){s:Rat}(g9:s<=t):v s+γ t+φ t=v t+γ s+φ s:=by
 have e:K 1*f=w*g:=by rw [<-S.eq];show(1:ZX)*f=f;grind
 have:=hv.mul hw hg ar e S.wg g9;omega
theorem OH(hv:pF f v)(hw:pF h w)(hc:rS f h){r:Nat}(hA:∀c∈f.l,c.natAbs<=2^s)(hB:∀c∈h.l,c.natAbs<=2^r)(hl:ZX.N f+ZX.N h<=2^l)
  {b:Rat} (ha:Ab a (2^β)) (hb:Ab b (2^β)) (fm:a<b) (hd:(b-a)*2^(sx f h s r l+(ZX.N f+ZX.N h)*(β+2)+2)<=1):v a=v b∨w a=w b:=by
 refine Classical.byContradiction fun yQ=>?_;have adt:=not_or.1 yQ
 have sm:∀ {p:ZX} {m:Nat} {u:Rat->Nat},pF p u->(∀c∈p.l,c.natAbs<=2^m)->¬u a=u b->Ab (e a p) ((b-a)*2^(m+ZX.N p*(β+2))):=fun {p m u} S hp hu =>
  S.small fm hu (eU _) (fun x y h1 h2 h3=>by have g1:=(Wb hp (Nat.le_refl _) (bR ha hb h1 aG) (bR ha hb (show a<=y by grind) h3)).1;have g2:=mO x y p.l;have g3:e y p-e x p=qv y p.l-qv x p.l:=rfl;rw [g3,g2];exact Ab.mul ⟨aG,Rat.le_refl⟩ g1) Rat.le_refl (Rat.le_of_lt fm)
 have b1:=sm hv hA adt.1;have b2:=sm hw hB adt.2;have n1:=ZX.ax.1 hv.ne;have n2:=ZX.ax.1 hw.ne;have s1:s<=s*ZX.N h:=Nat.le_mul_of_pos_right _ aa;have s2:r<=r*ZX.N f:=Nat.le_mul_of_pos_right _ aa;have fin:∀ {i j k:Nat},i+j+1=k->(b-a)*2^k<=1->(b-a)*2^i*2*2^j<=1:=fun {i j k} hk h=>by rw [<-hk,Rat.pow_succ,og]at h;grind
 have hX:sx f h s r l=(l+2)*(ZX.N f+ZX.N h)+s*ZX.N h+r*ZX.N f:=rfl;rw [Nat.add_mul]at hd;have h5:=anA hv.ne hw.ne hA hB hl hc ha (β:=β) (fin (i:=s+ZX.N f*(β+2)) (k:=sx f h s r l+(ZX.N f*(β+2)+ZX.N h*(β+2))+2) aa hd) (fin (i:=r+ZX.N h*(β+2)) (k:=sx f h s r l+(ZX.N f*(β+2)+ZX.N h*(β+2))+2) aa hd);have q1:0<(b-a)*2^(s+ZX.N f*(β+2)):=Rat.mul_pos aG (eU _);have q2:0<(b-a)*2^(r+ZX.N h*(β+2)):=Rat.mul_pos aG (eU _);obtain⟨p1,p2⟩:=b1;obtain⟨p3,p4⟩:=b2;rcases h5 with (h5 | h5) | (h5 | h5)<;>grind
theorem Wq(hv:pF f v)(hw:pF h w)(hc:rS f h)(hA:∀c∈f.l,c.natAbs<=2^s)(hB:∀c∈h.l,c.natAbs<=2^s)(hn:ZX.N f+ZX.N h<=n)(hl:n<=2^l)
  {b:Rat} (ha:Ab a (2^β)) (hb:Ab b (2^β)) (fm:a<b) (hd:(b-a)*2^(sk s n l β+(s+n*(β+2))+1)<=1):v a=v b∨w a=w b:=
 OH hv hw hc hA hB (Nat.le_trans hn hl) ha hb fm (BI hd (by have h1:=Wc (a:=f) (b:=h) (s:=s) (l:=l) (β:=β) hn (Nat.le_refl _);have h2:(ZX.N f+ZX.N h)*(β+2)<=n*(β+2):=Nat.mul_le_mul_right _ hn;omega))
theorem FZ(hv:pF f v)(hw:pF h w)(hc:rS f h)(B:Rat):∃δ:Rat,0<δ ∧ ∀a b,Ab a B->Ab b B->a<b->b-a<=δ->v a=v b∨w a=w b:=by obtain⟨s1,h1⟩:=BK f.l;obtain⟨s2,h2⟩:=BK h.l;obtain⟨β,hβ⟩:=IJ B;obtain⟨δ,h3,h4⟩:=BL (sk (s1+s2) (ZX.N f+ZX.N h) (ZX.N f+ZX.N h) β+(s1+s2+(ZX.N f+ZX.N h)*(β+2))+1);refine⟨δ,h3,fun a b ha hb fm hd=>Wq hv hw hc (s:=s1+s2) (l:=ZX.N f+ZX.N h) (β:=β) (fun c hc=>Nat.le_trans (h1 c hc) (Nat.pow_le_pow_right ar aa)) (fun c hc=>Nat.le_trans (h2 c hc) (Nat.pow_le_pow_right ar aa)) (Nat.le_refl _) (Nat.le_of_lt Nat.lt_two_pow_self) (ha.mono hβ) (hb.mono hβ) fm ?_⟩;rw [<-h4];exact Rat.mul_le_mul_of_nonneg_right hd (Rat.le_of_lt (eU _))
section
variable {f:ZX} {v:Rat->Nat} {lo hi:Rat} (A:j7 f v lo hi)
include A
theorem iW{s:Rat}(h1:¬fS v lo hi s)(h2:fS v lo hi t)(g9:s<t):v t<v s:=by
 have g1:s<hi:=Rat.not_le.1 fun h=>h1 (.inl h)
 rcases A.k with ⟨rfl,h0⟩ | ⟨bZ,hk⟩
 ·have h3:lo<=t:=by rcases h2 with h | h<;>grind
  have h4:=A.S.root g1 h0;have h5:=A.S.bI h3;omega
 ·have h3:v lo<=v s:=by
   by_cases h:s<=lo
   ·exact A.S.bI h
   ·exact Nat.not_lt.1 fun h4=>h1 (.inr ⟨aG,h4⟩)
  rcases h2 with h | ⟨_,h⟩
  ·have:=A.S.bI h;omega
  ·omega
theorem OI{s:Rat}(h1:¬fS v lo hi s)(h2:fS v lo hi t)(hv:v s=v t+1){x:Rat}(hx:s<=x)(hy:x<=t):fS v lo hi x↔v x<v s:=by
 refine⟨fun h=>?_,fun h=>?_⟩
 ·refine iW A h1 h ?_
  rcases Rat.le_iff_lt_or_eq.1 hx with h3 | rfl
  ·exact h3
  ·exact absurd h h1
 ·refine Classical.byContradiction fun h3=>?_
  have h4:x<t:=by
   rcases Rat.le_iff_lt_or_eq.1 hy with h4 | rfl
   ·exact h4
   ·exact absurd h2 h3
  have:=iW A h3 h2 h4;omega
end
theorem LW{U:Rat->Prop}{δ:Rat}(hδ:0<δ):∀(n:Nat) (s t:Rat),s<t->¬U s->U t->t-s<=δ*2^n -> ∃a b,s<=a∧a<b∧b<=t∧b-a<=δ∧¬U a∧U b
 | 0,s,t,h,h1,h2,hd=>⟨s,t,Rat.le_refl,h,Rat.le_refl,by rwa [Rat.pow_zero,Rat.mul_one]at hd,h1,h2⟩
 | n+1,s,t,h,h1,h2,hd=>by
  obtain⟨m1,m2⟩:=oh h;obtain⟨d1,d2⟩:=rT hd;generalize (s+t)/2=m at *
  by_cases hm:U m
  ·obtain⟨a,b,g1,g2,g3,g4⟩:=LW hδ n s m m1 h1 hm d1;exact⟨a,b,g1,g2,aG,g4⟩
  ·obtain⟨a,b,g1,g2,g3,g4⟩:=LW hδ n m t m2 hm h2 d2;exact⟨a,b,aG,g2,g3,g4⟩
theorem zH{δ:Rat}(hδ:0<δ){s:Rat}(h:s<t)(h1:¬U s)(h2:U t):∃a b,s<=a∧a<b∧b<=t∧b-a<=δ∧¬U a∧U b:=by obtain⟨n,hn⟩:=IJ ((t-s)/δ);refine LW hδ n s t h h1 h2 ?_;have h3:(t-s)/δ*δ=t-s:=Rat.div_mul_cancel (Rat.ne_of_gt hδ);have h4:=Rat.mul_le_mul_of_nonneg_right hn (Rat.le_of_lt hδ);grind
section
variable {f h:ZX} {v w:Rat->Nat} {lo hi iQ iK:Rat} (A:j7 f v lo hi) (B:j7 h w iQ iK)
include A B
theorem wm{w1 w2:ZX}{η:Rat->Nat}(S1:lK f h g w1)(S2:lK h f g w2)(hg:pF g γ)(h1:pF w1 φ)(h2:pF w2 η){s:Rat}(g9:s<t)(a1:¬fS v lo hi s)(a2:fS v lo hi t)(b1:¬fS w iQ iK s)(b2:fS w iQ iK t)(hv:v s<=v t+1)(hw:w s<=w t+1)(hγ:γ t<γ s) :
  ∀x,fS v lo hi x↔fS w iQ iK x:=fun x=>by
 have c1:=iW A a1 a2 g9;have c2:=iW B b1 b2 g9;have e1:v s=v t+1:=aa;have e2:w s=w t+1:=aa;have k1:=S1.BP A.S hg h1 (Rat.le_of_lt g9);have k2:=S2.BP B.S hg h2 (Rat.le_of_lt g9)
 by_cases hx:x<s
 ·exact⟨fun hh=>absurd (A.up hh (Rat.le_of_lt hx)) a1,fun hh=>absurd (B.up hh (Rat.le_of_lt hx)) b1⟩
 ·by_cases hy:t<x
  ·exact⟨fun _=>B.up b2 (Rat.le_of_lt hy),fun _=>A.up a2 (Rat.le_of_lt hy)⟩
  ·have z7:=Rat.not_lt.1 hx;have tz:=Rat.not_lt.1 hy;rw [OI A a1 a2 e1 z7 tz,OI B b1 b2 e2 z7 tz];have q1:=S1.BP A.S hg h1 z7;have q2:=S2.BP B.S hg h2 z7;have r1:=h1.bI z7;have r2:=h2.bI z7;have r3:=h1.bI tz;have r4:=h2.bI tz;have m1:=hg.bI (Rat.le_of_lt g9);have m2:=h1.bI (Rat.le_of_lt g9);have m3:=h2.bI (Rat.le_of_lt g9);omega
end
theorem IX{V:Rat->Prop}(hV:∀s t,V s->s<=t->V t):cu (fun t=>q<=t) V = -cr V q:=by
 by_cases h:V q
 ·by_cases h2:∃s,s<q∧V s
  ·rw [(xA hV).2 h2];unfold cu;obtain⟨s,h3,h4⟩:=h2;rw [if_neg (fun ⟨t,h5,h6⟩=>h6 (hV q t h h5)),if_pos ⟨s,h4,aG⟩];rfl
  ·rw [wj.2 ⟨h,fun s h3 h4=>h2 ⟨s,h3,h4⟩⟩];unfold cu;rw [if_neg (fun ⟨t,h5,h6⟩=>h6 (hV q t h h5)),if_neg (fun ⟨t,h5,h6⟩=>h2 ⟨t,aG,h5⟩)];rfl
 ·rw [mT.2 h];unfold cu;rw [if_pos ⟨q,Rat.le_refl,h⟩]
theorem D4(hU:∀s t,U s->s<=t->U t):cu U (fun t=>q<=t)=cr U q:=by
 by_cases h:U q
 ·by_cases h2:∃s,s<q∧U s
  ·rw [(xA hU).2 h2];unfold cu;obtain⟨s,h3,h4⟩:=h2;rw [if_pos ⟨s,h4,aG⟩]
  ·rw [wj.2 ⟨h,fun s h3 h4=>h2 ⟨s,h3,h4⟩⟩];unfold cu;rw [if_neg (fun ⟨t,h5,h6⟩=>h2 ⟨t,aG,h5⟩),if_neg (fun ⟨t,h5,h6⟩=>h6 (hU q t h h5))]
 ·rw [mT.2 h];unfold cu;rw [if_neg (fun ⟨t,h5,h6⟩=>h (hU t q h5 aG)),if_pos ⟨q,Rat.le_refl,h⟩]
theorem ka{V V':Rat->Prop}(h1:∀t,U t↔U' t)(h2:∀t,V t↔V' t):cu U V=cu U' V':=by have e1:U=U':=funext fun t=>propext (h1 t);have e2:V=V':=funext fun t=>propext (h2 t);rw [e1,e2]
theorem Wr(h1:∀t,U t↔U' t)(t:Rat):cr U t=cr U' t:=by have e1:U=U':=funext fun t=>propext (h1 t);rw [e1]
theorem gW(h:p.1=p.2)(t:Rat):bk f p t↔p.1<=t:=by
 refine⟨fun h1=>?_,fun h1 => .inl (h▸h1)⟩
 rcases h1 with h1 | ⟨h1,_⟩
 ·rw [h];exact h1
 ·grind
theorem anM(B:j7 h w iQ iK)(h1:hi<=iQ)(h2:iQ<iK):cu (fS v lo hi) (fS w iQ iK) = -1:=by unfold cu;rw [if_pos ⟨hi,dZ,B.gk aG⟩]
theorem anN(A:j7 f v lo hi)(B:j7 h w iQ iK)(h1:iK<=lo)(h2:lo<hi):cu (fS v lo hi) (fS w iQ iK)=1:=by have h3:¬fS v lo hi iK:=A.gk aG;have h4:¬ ∃t,fS v lo hi t∧¬fS w iQ iK t:=fun⟨t,h4,h5⟩=>h5 (B.up dZ (Rat.not_lt.1 fun h6=>h3 (A.up h4 (Rat.le_of_lt h6))));unfold cu;rw [if_neg h4,if_pos ⟨iK,dZ,h3⟩]
structure Two(s n:Nat)(f h:ZX):Prop where
 nf:Nf f
 nh:Nf h
 cf:rS f (bQ f)
 ch:rS h (bQ h)
 af:∀c∈f.l,c.natAbs<=2^s
 ah:∀c∈h.l,c.natAbs<=2^s
 Nf:ZX.N f<=n
 Nh:ZX.N h<=n
 hn:n<=20
 hs:n+1<=2^s
namespace Two
variable {s n:Nat} {f h:ZX} (T:Two s n f h)
include T
theorem Sf:pF f (vt (aH f)):=rV T.nf.ne T.cf (Nat.le_trans T.Nf T.hn)
theorem Sh:pF h (vt (aH h)):=rV T.nh.ne T.ch (Nat.le_trans T.Nh T.hn)
end Two
def kc(s n β:Nat):Nat:=lk s n 5 β+(sk (qb (s+1) n) (n+n) 6 β+(qb (s+1) n+(n+n)*(β+2))+1)
theorem anO(hn:n<=20):kc s n β<=1722*s+140*β+9000:=by
 have h1:(n+n)*(s+5+2+(5+1))<=40*(s+13):=Nat.mul_le_mul aa aa;have h2:(n+n)*(β+2)<=40*(β+2):=Nat.mul_le_mul aa aa;have h3:n*(β+2)<=20*(β+2):=Nat.mul_le_mul hn aa;have h4:n*(2*(s+1)+5)<=20*(2*(s+1)+5):=Nat.mul_le_mul hn aa;have h5:qb (s+1) n<=41*s+150:=by unfold qb;omega
 have h6:(n+n)*(qb (s+1) n+2+6)<=40*(41*s+158):=Nat.mul_le_mul aa aa;unfold kc lk sk;omega
theorem atu{w:ZX}(S:lK f h g w)(hf:f≠0)(hA:∀c∈f.l,c.natAbs<=2^s)(hN:ZX.N f<=n)(hs:n+1<=2^s):∀c∈w.l,c.natAbs<=2^qb (s+1) n:=fun c hc=>by
 have hb:Bd 2 (s+1) n f.l:=⟨hN,fun c hc=>dp ar (by have h1:=hA c hc;have h2:2^s<2^(s+1):=Nat.pow_lt_pow_right ar aa;omega)⟩
 have h1:=Vq (a:=f) (w:=g) (g:=w) hf (by rw [S.eq,ZX.DJ]) hb (Nat.le_trans hs (Nat.pow_le_pow_right ar aa));have h2:=iu (b:=2) ar c;have h3:=Nat.pow_le_pow_right (show 0<2 by decide) (h1.sz c hc);unfold qb;omega
theorem Rv{q:Rat × Rat}(T:Two s n f h)(A:j7 f (vt (aH f)) p.1 p.2)(B:j7 h (vt (aH h)) q.1 q.2)(h1:p.1<p.2)(h2:q.1<q.2)(h3:p.1<q.2)(h4:q.1<p.2)
  (a1:Ab p.1 (2^β)) (a2:Ab p.2 (2^β)) (b1:Ab q.1 (2^β)) (b2:Ab q.2 (2^β)) {W:Rat} (w1:p.2-p.1<=W) (w2:q.2-q.1<=W) (hW:2*W*2^kc s n β<=1):∀x,bk f p x↔bk h q x:=by
 obtain⟨S,hS,XS,hS2⟩:∃S,(S=p.1∨S=q.1)∧S<=p.1∧S<=q.1:=by
  by_cases hh:p.1<=q.1
  ·exact⟨p.1, .inl rfl,Rat.le_refl,hh⟩
  ·exact⟨q.1, .inr rfl,aG,Rat.le_refl⟩
 obtain⟨E,hE,hE1,hE2⟩:∃E,(E=p.2∨E=q.2)∧p.2<=E∧q.2<=E:=by
  by_cases hh:p.2<=q.2
  ·exact⟨q.2, .inr rfl,hh,Rat.le_refl⟩
  ·exact⟨p.2, .inl rfl,Rat.le_refl,aG⟩
 have aS:Ab S (2^β):=by rcases hS with rfl | rfl<;>assumption
 have aE:Ab E (2^β):=by rcases hE with rfl | rfl<;>assumption
 have yR:S<E:=aG;have hd:E-S<=2*W:=by rcases hS with rfl | rfl<;>rcases hE with rfl | rfl<;>grind
 have Uw:0<=E-S:=aG;have hdK:(E-S)*2^kc s n β<=1:=Rat.le_trans (Rat.mul_le_mul_of_nonneg_right hd (Rat.le_of_lt (eU _))) hW;have lt1:∀k,k<=kc s n β->(E-S)*2^k<=1:=fun k hk=>Rat.le_trans (Rat.mul_le_mul_of_nonneg_left (BH hk) Uw) hdK;obtain⟨Lf,_⟩:=(show ∃L,ur L f∧vt (aH f)=vt L from T.Sf.g)
 have o7:∀x:ZX,pF x (vt (aH x))->x≠0->(∀c∈x.l,c.natAbs<=2^s)->ZX.N x<=n->vt (aH x) S<=vt (aH x) E+1:=fun x hx h0 hA hN=>by obtain⟨L,G,e⟩:=hx.g;obtain⟨g1,_⟩:=sU G (s:=s) (n:=n) (l:=5) (β:=β) h0 hA hN (by have:=T.hn;omega) hx.DZ (δ:=E-S) (lt1 _ (by unfold kc;omega));have:=g1.turns S E aS aE yR Rat.le_refl;rw [e];rcases FT x S E with h5 | h5<;>omega
 have nF:=o7 f T.Sf T.nf.ne T.af T.Nf;have nH:=o7 h T.Sh T.nh.ne T.ah T.Nh;obtain⟨w1',S1⟩:=j9 (h:=h) T.nf T.cf;obtain⟨w2',S2⟩:=j9 (h:=f) T.nh T.ch;rw [<-pv]at S2;have Qv:=T.hn;have n1:=S1.N;have n2:=S2.N;have hTN:=T.Nf;have atv:=T.Nh;have hg:=rV S1.ng.ne S1.sg aa;have wK:=rV S1.nw.ne S1.sw aa;have ND:=rV S2.nw.ne S2.sw aa;have c1:¬bk f p S:=A.gk aG;have c2:bk f p E:=A.up dZ hE1;have c3:¬bk h q S:=B.gk aG;have c4:bk h q E:=B.up dZ hE2;have o1:=iW A c1 c2 yR;have o2:=iW B c3 c4 yR;have k1:=S1.BP T.Sf hg wK (Rat.le_of_lt yR);have mr:=atu S1 T.nf.ne T.af T.Nf T.hs;have wZ:=Wq wK T.Sh S1.wh (s:=qb (s+1) n) (n:=n+n) (l:=6) (β:=β) mr (fun c hc=>Nat.le_trans (T.ah c hc) (Nat.pow_le_pow_right ar (by unfold qb;omega))) aa aa aS aE yR (lt1 _ (by unfold kc;omega));have m0:=hg.bI (Rat.le_of_lt yR);refine wm A B S1 S2 hg wK ND yR c1 c2 c3 c4 nF nH ?_
 rcases wZ with wZ | wZ
 ·omega
 ·omega
theorem Rw{q:Rat × Rat}(T:Two s n f h)(A:j7 f (vt (aH f)) p.1 p.2)(B:j7 h (vt (aH h)) q.1 q.2)(h1:p.1<p.2)(h2:q.1<q.2)(h3:¬bk f p q.1)(h4:bk f p q.2)(hz:vt (aH (gz h f)) p.2<vt (aH (gz h f)) p.1):∀x,bk f p x↔bk h q x:=by
 rw [pv]at hz;obtain⟨w1',S1⟩:=j9 (h:=h) T.nf T.cf;obtain⟨w2',S2⟩:=j9 (h:=f) T.nh T.ch;rw [<-pv]at S2;have Qv:=T.hn;have n1:=S1.N;have n2:=S2.N;have hTN:=T.Nf;have atv:=T.Nh;have hg:=rV S1.ng.ne S1.sg aa;have wK:=rV S1.nw.ne S1.sw aa;have ND:=rV S2.nw.ne S2.sw aa
 have hv:vt (aH f) p.1=vt (aH f) p.2+1:=by
  rcases A.k with ⟨g,_⟩ | ⟨_,g⟩
  ·grind
  ·exact g
 have hw:vt (aH h) q.1=vt (aH h) q.2+1:=by
  rcases B.k with ⟨g,_⟩ | ⟨_,g⟩
  ·grind
  ·exact g
 have Ux:q.1<p.2:=Rat.not_le.1 fun hh=>h3 (.inl hh);have XL:p.1<q.2:=Rat.not_le.1 fun hh=>(A.gk (show q.2<p.1∨(q.2=p.1∧p.1<p.2)by grind)) h4
 obtain⟨S,hS,XS,hS2⟩:∃S,(S=p.1∨S=q.1)∧p.1<=S∧q.1<=S:=by
  by_cases hh:p.1<=q.1
  ·exact⟨q.1, .inr rfl,hh,Rat.le_refl⟩
  ·exact⟨p.1, .inl rfl,Rat.le_refl,aG⟩
 obtain⟨E,hE,hE1,hE2⟩:∃E,(E=p.2∨E=q.2)∧E<=p.2∧E<=q.2:=by
  by_cases hh:p.2<=q.2
  ·exact⟨p.2, .inl rfl,Rat.le_refl,hh⟩
  ·exact⟨q.2, .inr rfl,aG,Rat.le_refl⟩
 have yR:S<E:=by rcases hS with rfl | rfl<;>rcases hE with rfl | rfl<;>assumption
 have c1:¬bk f p S:=by
  rcases hS with rfl | rfl
  ·exact A.gk (.inr ⟨rfl,h1⟩)
  ·exact h3
 have c2:bk f p E:=by
  rcases hE with rfl | rfl
  ·exact dZ
  ·exact h4
 have o1:=iW A c1 c2 yR;have v1:=T.Sf.bI XS;have v2:=T.Sf.bI hE1;have k1:=S1.BP T.Sf hg wK XS;have k2:=S1.BP T.Sf hg wK hE1;have k3:=S1.BP T.Sf hg wK (Rat.le_of_lt yR);have k4:=S2.BP T.Sh hg ND (Rat.le_of_lt yR);have a1:=hg.bI XS;have a2:=hg.bI hE1;have a3:=wK.bI XS;have a4:=wK.bI hE1;have a5:=ND.bI (Rat.le_of_lt yR);have a6:=wK.bI (Rat.le_of_lt yR);have u1:=T.Sh.bI hS2;have u2:=T.Sh.bI hE2
 have c3:¬bk h q S:=fun hh=>by
  rcases hh with hh | ⟨_,hh⟩
  ·have:=T.Sh.bI hh;omega
  ·omega
 have c4:bk h q E:=.inr ⟨aG,aa⟩;exact wm A B S1 S2 hg wK ND yR c1 c2 c3 c4 aa aa aa
theorem Rx{q:Rat × Rat}(T:Two s n f h)(A:j7 f (vt (aH f)) p.1 p.2)(B:j7 h (vt (aH h)) q.1 q.2)(h1:p.1<p.2)(hx:∀x,bk f p x↔bk h q x):vt (aH (gz h f)) p.2<vt (aH (gz h f)) p.1:=by
 rw [pv];obtain⟨w1',S1⟩:=j9 (h:=h) T.nf T.cf;have Qv:=T.hn;have n1:=S1.N;have hTN:=T.Nf;have hg:=rV S1.ng.ne S1.sg aa;have wK:=rV S1.nw.ne S1.sw aa;obtain⟨B0,hB0,ab1,ab2⟩:=iU p.1 p.2;obtain⟨δ,hδ,wZ⟩:=FZ wK T.Sh S1.wh B0;obtain⟨a,b,g1,g2,g3,g4,g5,g6⟩:=zH (U:=bk f p) hδ h1 (A.gk (.inr ⟨rfl,h1⟩)) dZ;have o1:=iW A g5 g6 g2;have o2:=iW B (fun hh=>g5 ((hx _).2 hh)) ((hx _).1 g6) g2;have k1:=S1.BP T.Sf hg wK (Rat.le_of_lt g2);have a1:=hg.bI g1;have a2:=hg.bI g3
 rcases wZ a b (bR ab1 ab2 g1 aG) (bR ab1 ab2 aG g3) g2 g4 with hh | hh
 ·omega
 ·omega
end Go.Proofs.YtiobceocpabjdaaGreat
namespace Go.Proofs.YtiobceocpabjdaaGreat
open Go Pm List
open ZX hiding N W
variable {a:ZX}{c:List ZX}{p:Rat × Rat}{y x g q:List Int}{an ad bn bd σ d en ed gn r w tn td dg:Int}{u D j s n s' k:Nat}{α:Type}{L:List (Rat × Rat)}{t:Rat}{U:Rat->Prop}
theorem F0(na:Nf a)(hc:rS a (bQ a)):sq a=a:=by obtain⟨g,hg⟩:=jr _ a (bQ a) (Nat.le_refl _);have h0:=hg.ne (.inl na.ne);have h1:=hc g hg.l hg.r;have h2:=ZX.ax.1 h0;obtain⟨k,hk,rfl⟩:=j1 (show ZX.N g=1 by omega);obtain⟨c,pY,u,v,e⟩:=hg.uv;rw [oO]at e;exact aat na (Int.mul_ne_zero pY hk) e.symm
abbrev eV(x:List Int)(c:List ZX)(an ad bn bd:Int):List PV:=[PI x,aw zq c,aw ay (aI DD an.natAbs), .bool (decide (an<0)),aw ay (aI DD ad.natAbs), .bool (decide (ad<0)),aw ay (aI DD bn.natAbs), .bool (decide (bn<0)),aw ay (aI DD bd.natAbs), .bool (decide (bd<0))]
theorem rW{f:ZX}:QA f c p = .ag (eV f.l c p.1.num p.1.den p.2.num p.2.den):=rfl
theorem jG{cg:List ZX}{b:Int}{pt z:Bool}(hl:y.length<1000000)(hg:g.length<1000000)(p1:aj 75 [.ag (eV x c an ad bn bd)] (.bool pt))(k1:pt=true->aj 77 [PI y,R2 an ad] (ae σ))(k2:aj 203 [PI y,PI x] (PI g))
  (k3:2<=g.length->aj 81 [PI g] (aw zq cg)) (k4:2<=g.length->aj 76 [aw zq cg,R2 an ad,R2 bn bd] (ae b)) (hz:z=if y.length=0 then true else if pt=true then σ==0 else if g.length<2 then false else decide (0<b)) :
  aj 116 [PI y, .ag (eV x c an ad bn bd)] (.bool z):=by
 simp only [eV]at p1 |-;apply bL [(0,PI y),(1, .ag [PI x,aw zq c,aw ay (aI DD an.natAbs), .bool (decide (an<0)),aw ay (aI DD ad.natAbs), .bool (decide (ad<0)),aw ay (aI DD bn.natAbs), .bool (decide (bn<0)),aw ay (aI DD bd.natAbs), .bool (decide (bd<0))])] Tryz.func116;apply aR [0,3]
 apply cS [0,3,8]<;>intro h
 ·have hy:y.length=0:=by simp at h;simp [h]
  rw [if_pos hy]at hz;subst hz;exact dS [4]
 ·have hy:¬y.length=0:=by simp at h;simp [h]
  rw [if_neg hy]at hz;apply (jm)
  apply fH p1 [0,3,10]<;>intro h
  ·subst h;rw [if_pos rfl]at hz;subst hz;have k1':=k1 rfl;exact yN k1' [4]
  ·subst h;rw [if_neg ar]at hz;apply rf k2 [3,5]
   apply cS [3,5,22]<;>intro h
   ·have nW:g.length<2:=(by simp at h;omega);rw [if_pos nW]at hz;subst hz;exact dS [4]
   ·have nW:¬g.length<2:=(by simp at h;omega);rw [if_neg nW]at hz;have k3':=k3 aa;have k4':=k4 aa;apply W.skip;apply W.sd;apply eO k3' k4';apply bM [4];apply W.ret;simp [go,hz]
theorem wo(U:Rat->Prop)(t:Rat):cr U t = -1∨cr U t=0∨cr U t=1:=by
 unfold cr
 split
 ·split<;>simp
 ·simp
theorem Ry{d:List ZX}{gd:Int}(hr:r = -1∨r=0∨r=1)(p1:aj 75 [.ag (eV x c an ad bn bd)] (.bool true))(k1:aj 19 [.ag (eV y d en ed gn gd),R2 an ad] (ae r)) :
  aj 48 [.ag (eV x c an ad bn bd), .ag (eV y d en ed gn gd)] (ae (-r)):=by
 have hw:IntKind.wrap .i64 (-r) = -r:=wrap_i64 aa aa;simp only [eV]at p1 k1 |-;apply bL [(0, .ag [PI x,aw zq c,aw ay (aI DD an.natAbs), .bool (decide (an<0)),aw ay (aI DD ad.natAbs), .bool (decide (ad<0)),aw ay (aI DD bn.natAbs), .bool (decide (bn<0)),aw ay (aI DD bd.natAbs), .bool (decide (bd<0))]),(1, .ag [PI y,aw zq d,aw ay (aI DD en.natAbs), .bool (decide (en<0)),aw ay (aI DD ed.natAbs), .bool (decide (ed<0)),aw ay (aI DD gn.natAbs), .bool (decide (gn<0)),aw ay (aI DD gd.natAbs), .bool (decide (gd<0))])] Tryz.func48;apply fB [2,3]
 apply fH p1 [2,3,6]<;>intro h
 ·apply lE k1;exact EU hw [4]
 ·simp at h
theorem Rz{d:List ZX}{gd:Int}(p1:aj 75 [.ag (eV x c an ad bn bd)] (.bool false))(p2:aj 75 [.ag (eV y d en ed gn gd)] (.bool true))(k1:aj 19 [.ag (eV x c an ad bn bd),R2 en ed] (ae r)) :
  aj 48 [.ag (eV x c an ad bn bd), .ag (eV y d en ed gn gd)] (ae r):=by
 simp only [eV]at p1 p2 k1 |-;apply bL [(0, .ag [PI x,aw zq c,aw ay (aI DD an.natAbs), .bool (decide (an<0)),aw ay (aI DD ad.natAbs), .bool (decide (ad<0)),aw ay (aI DD bn.natAbs), .bool (decide (bn<0)),aw ay (aI DD bd.natAbs), .bool (decide (bd<0))]),(1, .ag [PI y,aw zq d,aw ay (aI DD en.natAbs), .bool (decide (en<0)),aw ay (aI DD ed.natAbs), .bool (decide (ed<0)),aw ay (aI DD gn.natAbs), .bool (decide (gn<0)),aw ay (aI DD gd.natAbs), .bool (decide (gd<0))])] Tryz.func48;apply fB [2,3]
 apply fH p1 [2,3,6]<;>intro h
 ·simp at h
 apply (jm)
 apply fH p2 [2,3,13]<;>intro h
 ·exact yN k1 [4]
 ·simp at h
section
variable {s n s' n' u:Nat} {f h:ZX} {p q:Rat × Rat} (I:kS s n f) (I':kS s' n' h) (A:j7 f (vt (aH f)) p.1 p.2) (B:j7 h (vt (aH h)) q.1 q.2) (p1:SQ u p.1) (p2:SQ u p.2) (q1:SQ u q.1) (q2:SQ u q.2) (hu:u<=1000000000)
include I I' A B p1 p2 q1 q2 hu
theorem Ws(hp:p.1=p.2∨q.1=q.2):aj 48 [QA f (aH f) p,QA h (aH h) q] (ae (cu (bk f p) (bk h q))):=by
 have e1:=lJ (f:=f) (c:=aH f) p1 p2 hu;have e2:=lJ (f:=h) (c:=aH h) q1 q2 hu
 by_cases h1:p.1=p.2
 ·rw [decide_eq_true h1]at e1;have k1:=I'.om B q1 q2 p1 hu;rw [ka (gW h1) (fun _=>Iff.rfl),IX fun s t=>B.up];rw [bW]at k1;exact Ry (wo _ _) e1 k1
 ·rw [decide_eq_false h1]at e1;have h2:q.1=q.2:=hp.resolve_left h1;rw [decide_eq_true h2]at e2;have k1:=I.om A p1 p2 q1 hu;rw [ka (fun _=>Iff.rfl) (gW h2),D4 fun s t=>A.up];rw [bW]at k1;exact Rz e1 e2 k1
end
theorem yw{p q:Rat}(hp:SQ u p)(hq:SQ u q):∃D,1<=D∧D<=2^(2*u)∧Gr D (2^u) 0 p∧Gr D (2^u) 0 q:=by
 have key:∀r:Rat,SQ u r->1<=r.den∧r.den<=2^u∧Ab r (2^u)∧r*((r.den:Int):Rat)=(r.num:Rat):=fun r hr=>by
  have h1:=r.den_pos;have h2:=iu (b:=2) ar (r.den:Int);have h3:=Nat.pow_le_pow_right (show 0<2 by decide) hr.d2;have h4:=iu (b:=2) ar r.num;have h5:=Nat.pow_le_pow_right (show 0<2 by decide) hr.n2;have h6:=we r;have h7:Ab (r.num:Rat) (2^u):=DY aa;have h8:(1:Rat)<=((r.den:Int):Rat):=ep aa;refine⟨h1,aa,?_,h6.symm⟩;rw [h6]at h7;obtain⟨g1,g2⟩:=h7;have hT:=eU u;generalize (2:Rat)^u=T at *
  constructor
  ·refine Rat.not_lt.1 fun hh=>?_;have:=Rat.mul_le_mul_of_nonneg_left h8 (show 0 <= -r by grind);grind
  ·refine Rat.not_lt.1 fun hh=>?_;have:=Rat.mul_le_mul_of_nonneg_left h8 (show 0<=r by grind);grind
 obtain⟨a1,a2,a3,a4⟩:=key p hp;obtain⟨b1,b2,b3,b4⟩:=key q hq
 refine⟨p.den*q.den,Nat.mul_pos a1 b1,?_,⟨⟨p.num*(q.den:Int),?_⟩,a3⟩,⟨⟨q.num*(p.den:Int),?_⟩,b3⟩⟩
 ·rw [Nat.two_mul,Nat.pow_add];exact Nat.mul_le_mul a2 b2
 ·rw [Nat.pow_zero,Nat.mul_one,Rat.intCast_mul,<-a4,Int.natCast_mul p.den,Rat.intCast_mul];grind
 ·rw [Nat.pow_zero,Nat.mul_one,Rat.intCast_mul,<-b4,Int.natCast_mul p.den,Rat.intCast_mul];grind
theorem ady{f:ZX}{B:Rat}(h1:Gr D B j p.1)(h2:Gr D B j p.2)(hle:p.1<=p.2):Gr D B (j+1) (hv f p).1∧Gr D B (j+1) (hv f p).2∧((hv f p).2-(hv f p).1)*2<=p.2-p.1:=by
 have hm:=h1.A3 h2;have e:(p.1+p.2)/2*2=p.1+p.2:=Rat.div_mul_cancel ar
 have key:∀q:Rat × Rat,Gr D B (j+1) q.1->Gr D B (j+1) q.2->q.1<=q.2->(q.2-q.1)*2<=p.2-p.1->Gr D B (j+1) (ex f q).1∧Gr D B (j+1) (ex f q).2∧((ex f q).2-(ex f q).1)*2<=p.2-p.1:=fun q a1 a2 a3 a4=>by
  unfold ex
  split
  ·exact⟨a2,a2,by show(q.2-q.2)*2<=_;grind⟩
  ·exact⟨a1,a2,a4⟩
 unfold hv
 split
 ·rename_i hh;exact⟨h1.mono aa,h2.mono aa,by rw [hh];grind⟩
 ·split
  ·exact key (p.1,(p.1+p.2)/2) (h1.mono aa) hm (by show p.1<=_;grind) (by show((p.1+p.2)/2-p.1)*2<=_;grind)
  ·exact key ((p.1+p.2)/2,p.2) hm (h2.mono aa) (by show _<=p.2;grind) (by show(p.2-(p.1+p.2)/2)*2<=_;grind)
theorem Wt{n' S N:Nat}{f fb:ZX}{q:Rat × Rat}(I:kS s n f)(I':kS s' n' fb)(T:Two S N f fb)(hS:S<=20000)(hG:aj 203 [PI fb.l,PI f.l] (PI (gz fb f).l))(IG:2<=ZX.N (gz fb f) -> ∃sg ng,kS sg ng (gz fb f))
  (A:j7 f (vt (aH f)) p.1 p.2) (B:j7 fb (vt (aH fb)) q.1 q.2) (p1:SQ u p.1) (p2:SQ u p.2) (q1:SQ u q.1) (q2:SQ u q.2) (hu:u<=2200000):aj 48 [QA f (aH f) p,QA fb (aH fb) q] (ae (cu (bk f p) (bk fb q))):=by
 by_cases Ce:p.1=p.2∨q.1=q.2
 ·exact Ws I I' A B p1 p2 q1 q2 aa Ce
 obtain⟨hp,hq⟩:=not_or.1 Ce;have MA:p.1<p.2:=by have:=A.le;grind
 have QQ:q.1<q.2:=by have:=B.le;grind
 have hTn:=T.hn;have ZQ:=T.Nf;have CC:=T.Nh;have e1:=lJ (f:=f) (c:=aH f) p1 p2 aa;have e2:=lJ (f:=fb) (c:=aH fb) q1 q2 aa;rw [decide_eq_false hp]at e1;rw [decide_eq_false hq]at e2
 have ⟨zv,hzv,Z⟩:∃z:Bool,(z=true↔vt (aH (gz fb f)) p.2<vt (aH (gz fb f)) p.1)∧aj 116 [PI fb.l,QA f (aH f) p] (.bool z):=by
  have hg0:gz fb f≠0:=ac6 (.inr I.nf.ne);have hgN:ZX.N (gz fb f)<=ZX.N f:=(ek fb f).r.j2 I.nf.ne;have uI:¬fb.l.length=0:=by have:=ZX.ax.1 I'.nf.ne;have:ZX.N fb=fb.l.length:=rfl;omega
  by_cases h2:2<=ZX.N (gz fb f)
  ·obtain⟨sg,ng,RA⟩:=IG h2;have k4:=RA.oP p1 p2 aa;rw [if_neg (Rat.not_lt.2 (Rat.le_of_lt MA)),bW,bW]at k4;refine⟨_,?_,jG (by show ZX.N fb<_;omega) (by show ZX.N (gz fb f)<_;omega) e1 (fun hh=>by cases hh) hG (fun _=>RA.xD) (fun _=>k4) (σ:=0) rfl⟩;rw [if_neg uI,if_neg ar,if_neg (by show ¬ZX.N (gz fb f)<2;omega),decide_eq_true_eq];omega
  ·refine⟨_,?_,jG (by show ZX.N fb<_;omega) (by show ZX.N (gz fb f)<_;omega) e1 (fun hh=>by cases hh) hG (fun hh=>absurd hh h2) (fun hh=>absurd hh h2) (σ:=0) (b:=0) (cg:=[]) rfl⟩;rw [if_neg uI,if_neg ar,if_pos (by show ZX.N (gz fb f)<2;omega)];refine⟨fun hh=>absurd hh ar,fun hh=>?_⟩;exfalso;have:gz fb f=1:=(yj (.inr I.nf.ne)).N1 aa;rw [this]at hh;have XS:=rV ZX.mJ (fun d h1 h2=>by have:=h1.j2 ZX.mJ;rwa [ZX.tL]at this) (by rw [ZX.tL];omega);have:=XS.const MA (σ:=1) (.inr (by rw [Ol];decide)) (fun x _ _=>by rw [Ol];decide);omega
 have r1:=I.om A p1 p2 q1 aa;have r2:=I.om A p1 p2 q2 aa;obtain⟨D,Jt,uJ,g1,g2⟩:=yw p1 p2;obtain⟨D',LX,LY,g1',g2'⟩:=yw q1 q2;have hK:=anO (s:=S) (β:=u) hTn;have anR:∀r:Rat × Rat,Ab r.1 (2^u)->Ab r.2 (2^u)->r.2-r.1<=2^(u+1):=fun r ⟨a1,a2⟩ ⟨a3,a4⟩=>by rw [Rat.pow_succ];grind
 obtain⟨J,hJ⟩:∃J,J=kc S N u+u+2:=⟨_,rfl⟩
 have Wu:u+1+2*u+J+1<=1000000000:=aa;have sqA:∀(D:Nat),1<=D->D<=2^(2*u) -> ∀(j:Nat) (r:Rat),j<=J->Gr D (2^u) j r->SQ (u+1+2*u+J+1) r:=fun D h1 h2 j r hj hr=>((hr.mono hj).sq h1 h2).mono aa;have sqS:∀(D:Nat),1<=D->D<=2^(2*u) -> ∀(j:Nat) (r r':Rat),j<=J->Gr D (2^u) j r->Gr D (2^u) j r'->SQ (u+1+2*u+J+1) (r+r'):=fun D h1 h2 j r r' hj hr gI=>(((hr.add gI).mono hj).sq h1 h2)
 by_cases mV:∀x,bk f p x↔bk fb q x
 ·-- atw are one
  have hz:zv=true:=hzv.2 (Rx T A B MA mV);subst hz;have c1:cr (bk f p) q.1=1:=mT.2 fun hh=>B.gk (.inr ⟨rfl,QQ⟩) ((mV _).1 hh)
  have c2:cr (bk f p) q.2<=0:=by
   rcases wo (bk f p) q.2 with hh | hh | hh
   ·omega
   ·omega
   ·exact absurd ((mV _).2 dZ) (mT.1 hh)
  rw [c1]at r1;rw [OC.2 mV,rW,rW];rw [rW]at Z e1 e2 r1 r2;rw [bW]at r1 r2;generalize cr (bk f p) q.2=r at *;simp only [eV]at Z e1 e2 r1 r2 |-;apply bL [(0, .ag (eV f.l (aH f) p.1.num p.1.den p.2.num p.2.den)),(1, .ag (eV fb.l (aH fb) q.1.num q.1.den q.2.num q.2.den))] Tryz.func48;apply fB [2,3]
  apply fH e1 [2,3,6]<;>intro h
  ·simp at h
  apply (jm)
  apply fH e2 [2,3,13]<;>intro h
  ·simp at h
  apply W.skip;refine W.fR (fun σ=>False) ?_ (fun _ hh=>hh.elim)
  apply fH Z [2,3,21]<;>intro h
  ·apply kh r1 r2;simp (disch:=omega) [gw,c2]
   apply u7 [2,3,33]<;>intro h
   ·exact dS [4]
   ·simp at h
  ·simp at h
 ·-- atw are two
  have uQ:zv=true->¬(0<cr (bk f p) q.1∧cr (bk f p) q.2<=0):=fun hz ⟨c1,c2⟩=>mV (Rw T A B MA QQ (by
   rcases wo (bk f p) q.1 with hh | hh | hh
   ·omega
   ·omega
   ·exact mT.1 hh) (Classical.byContradiction fun hh=>by have:=mT.2 hh;omega) (hzv.1 hz))
  have hsw:¬ ∀x,fS (vt (aH f)) p.1 p.2 x↔fS (vt (aH fb)) q.1 q.2 x:=mV;rw [rW,rW];rw [rW]at Z e1 e2 r1 r2;rw [bW]at r1 r2;generalize hv1:cr (bk f p) q.1=x1 at *;generalize hv2:cr (bk f p) q.2=x2 at *;clear hv1 hv2;simp only [eV]at Z e1 e2 r1 r2 |-;apply bL [(0, .ag (eV f.l (aH f) p.1.num p.1.den p.2.num p.2.den)),(1, .ag (eV fb.l (aH fb) q.1.num q.1.den q.2.num q.2.den))] Tryz.func48;apply fB [2,3]
  apply fH e1 [2,3,6]<;>intro h
  ·simp at h
  apply (jm)
  apply fH e2 [2,3,13]<;>intro h
  ·simp at h
  apply W.skip
  refine W.fR (fun σ=>∃(v2 v3:Nat),aQ σ [(2, .ptr 2 v2 0 0),(3, .ptr 3 v3 0 0)] fun rows clk=>rows 2=some ⟨v2,49,10,[eV f.l (aH f) p.1.num p.1.den p.2.num p.2.den]⟩∧rows 3=some ⟨v3,49,10,[eV fb.l (aH fb) q.1.num q.1.den q.2.num q.2.den]⟩) ?_ ?_
  ·apply fH Z [2,3,21]<;>intro h
   ·have hc:=uQ h
    by_cases hx1:0<x1
    ·have hx2:¬x2<=0:=fun hh=>hc ⟨hx1,hh⟩;apply lE r1;apply iI hx1 r2
     apply s8 hx2 [2,3,33]<;>intro h
     ·simp at h
     ·apply W.skip;exact⟨_,ak _ [2,3],_,_,_,_,rfl,av,av⟩
    ·apply lE r1
     apply s8 hx1 [2,3,33]<;>intro h
     ·simp at h
     ·apply W.skip;exact⟨_,ak _ [2,3],_,_,_,_,rfl,av,av⟩
   ·apply W.skip;exact⟨_,ak _ [2,3],_,_,_,_,rfl,av,av⟩
  rintro _ ⟨v2,v3,rows,clk,rfl,bE,bA⟩;clear Z e1 e2 r1 r2;apply W.block
  refine W.aO (fun k σ=>∃(a b:Rat × Rat) (j v2 v3:Nat),aQ σ [(2, .ptr 2 v2 0 0),(3, .ptr 3 v3 0 0)] fun rows clk=>rows 2=some ⟨v2,49,10,[eV f.l (aH f) a.1.num a.1.den a.2.num a.2.den]⟩∧rows 3=some ⟨v3,49,10,[eV fb.l (aH fb) b.1.num b.1.den b.2.num b.2.den]⟩ ∧
   j7 f (vt (aH f)) a.1 a.2∧j7 fb (vt (aH fb)) b.1 b.2∧(∀x,bk f a x↔bk f p x)∧(∀x,bk fb b x↔bk fb q x)∧Gr D (2^u) j a.1∧Gr D (2^u) j a.2∧Gr D' (2^u) j b.1∧Gr D' (2^u) j b.2∧(a.2-a.1)*2^j<=2^(u+1)∧(b.2-b.1)*2^j<=2^(u+1)∧j+k=J) J ?_ ?_
  ·exact⟨_, .refl,p,q,0,_,_,_,_,rfl,bE,bA,A,B,fun _=>Iff.rfl,fun _=>Iff.rfl,g1,g2,g1',g2',by rw [Rat.pow_zero,Rat.mul_one];exact anR p g1.b g2.b,by rw [Rat.pow_zero,Rat.mul_one];exact anR q g1'.b g2'.b,aa⟩
  rintro k _ ⟨a,b,j,v2,v3,rows,clk,rfl,bE,bA,HA,HB,ha,hb,ga1,ga2,gb1,gb2,wa,wb,Ta⟩;have s1:=sqA D Jt uJ j a.1 aa ga1;have s2:=sqA D Jt uJ j a.2 aa ga2;have s3:=sqA D' LX LY j b.1 aa gb1;have s4:=sqA D' LX LY j b.2 aa gb2;have e1:=lJ (f:=f) (c:=aH f) s1 s2 Wu;have e2:=lJ (f:=fb) (c:=aH fb) s3 s4 Wu;rw [rW]at e1 e2;simp only [eV]at e1 e2 bE bA;apply W.block;apply W.seq
  by_cases Ce:a.1=a.2∨b.1=b.2
  ·have C:=Ws I I' HA HB s1 s2 s3 s4 Wu Ce;rw [ka ha hb,rW,rW]at C;simp only [eV]at C
   by_cases h1:a.1=a.2
   ·rw [decide_eq_true h1]at e1;apply lF bE e1
    apply kt [2,3,39]<;>intro h
    ·apply lG bE bA C;exact eK [4]
    ·simp at h
   ·rw [decide_eq_false h1]at e1;rw [decide_eq_true (Ce.resolve_left h1)]at e2;apply lG bE bA e1;apply iS bE bA e2
    apply kt [2,3,39]<;>intro h
    ·apply lG bE bA C;exact eK [4]
    ·simp at h
  ·obtain⟨h1,h2⟩:=not_or.1 Ce;rw [decide_eq_false h1]at e1;rw [decide_eq_false h2]at e2;have Zn:a.1<a.2:=(by have:=HA.le;grind);have R8:b.1<b.2:=(by have:=HB.le;grind);have m1:=ll a.2 b.1 (s2.yy Wu) (s3.yy Wu);have m2:=ll b.2 a.1 (s4.yy Wu) (s1.yy Wu);rw [bW,bW]at m1 m2;apply lG bE bA e1;apply iS bE bA e2
   apply kt [2,3,39]<;>intro h
   ·simp at h
   apply (jm);apply lG bE bA m1
   apply kt [2,3,48]<;>intro h
   ·simp at h;rw [je]at h;have hcu:cu (bk f p) (bk fb q) = -1:=(by rw [<-ka ha hb];exact anM HB h R8);rw [hcu];exact dS [4]
   ·simp at h;rw [<-Int.not_le,je]at h;have fm:=Rat.not_le.1 h;apply (jm);apply lG bE bA m2
    apply kt [2,3,54]<;>intro h
    ·simp at h;rw [je]at h;have hcu:cu (bk f p) (bk fb q)=1:=(by rw [<-ka ha hb];exact anN HA HB h Zn);rw [hcu];exact dS [4]
    ·simp at h;rw [<-Int.not_le,je]at h;have hba:=Rat.not_le.1 h
     have hk:k≠0:=fun wG=>by
      have VV:j=J:=aa;refine mV fun x=>?_;have hP:=eU j;have hW:∀w:Rat,w*2^j<=2^(u+1)->w<=2^(u+1)/2^j:=fun w hw=>Rat.not_lt.1 fun bZ=>by have e0:(2:Rat)^(u+1)/2^j*2^j=2^(u+1):=Rat.div_mul_cancel (Rat.ne_of_gt hP);have:=Rat.mul_lt_mul_of_pos_right bZ hP;grind
      have:=Rv (W:=2^(u+1)/2^j) T HA HB Zn R8 hba fm ga1.b ga2.b gb1.b gb2.b (hW _ wa) (hW _ wb) (by have e0:(2:Rat)^(u+1)/2^j*2^j=2^(u+1):=Rat.div_mul_cancel (Rat.ne_of_gt hP);have e3:(2:Rat)^j=2^kc S N u*2^(u+2):=(by rw [<-og,VV,hJ];congr 1);have e4:(2:Rat)^(u+2)=2^(u+1)*2:=(by rw [<-Rat.pow_succ]);have hQ:=eU (kc S N u);have hR:=eU (u+1);rw [e4]at e3;generalize (2:Rat)^(u+1)/2^j=W at *;rw [e3]at e0;generalize (2:Rat)^kc S N u=κ,(2:Rat)^(u+1)=R at *;have e5:R*(2*W*κ)=R*1:=aG;have e6:=Rat.le_of_mul_le_mul_left (show R*(2*W*κ)<=R*1 by rw [e5];exact Rat.le_refl) hR;exact e6) x;exact(ha x).symm.trans (this.trans (hb x))
     obtain⟨k',rfl⟩:∃k',k=k'+1:=⟨k-1,aa⟩
     have ma:=ga1.A3 ga2;have mb:=gb1.A3 gb2;have H1:=I.Wp (u:=u+1+2*u+J+1) (Rat.le_of_lt Zn) s1 s2 (sqA D Jt uJ (j+1) _ aa ma) (sqS D Jt uJ j _ _ aa ga1 ga2) Wu;have H2:=I'.Wp (u:=u+1+2*u+J+1) (Rat.le_of_lt R8) s3 s4 (sqA D' LX LY (j+1) _ aa mb) (sqS D' LX LY j _ _ aa gb1 gb2) Wu;obtain⟨ha1,ha2⟩:=OG HA;obtain⟨Ey,wW⟩:=OG HB;obtain⟨ga3,ga4,wa'⟩:=ady (f:=f) ga1 ga2 (Rat.le_of_lt Zn);obtain⟨gb3,gb4,wb'⟩:=ady (f:=fb) gb1 gb2 (Rat.le_of_lt R8);rw [rW,rW]at H1 H2;simp only [eV]at H1 H2;have hwd:∀w w':Rat,w*2^j<=2^(u+1)->w'*2<=w->w'*2^(j+1)<=2^(u+1):=fun w w' g1 g2=>by have hP:=eU j;have g3:=Rat.mul_le_mul_of_nonneg_right g2 (Rat.le_of_lt hP);rw [Rat.pow_succ];grind
     have wa2:=hwd _ _ wa wa';have wb2:=hwd _ _ wb wb';have ha3:∀x,bk f (hv f a) x↔bk f p x:=fun x=>(ha2 x).trans (ha x);have hb3:∀x,bk fb (hv fb b) x↔bk fb q x:=fun x=>(wW x).trans (hb x);generalize hv f a=a',hv fb b=b' at *;apply W.skip;refine W.Dd fun K hK=>?_;apply iS bE bA H1;apply iS bE bA H2
     (try (refine aM (of_decide_eq_true bX) ?_));(try simp (maxSteps:=4000000) (disch:=omega) [gw,bE,bA,kR]);(repeat rw [if_pos bX]);(try simp (maxSteps:=4000000) (disch:=omega) [gw,bE,bA,kR])
     (try (refine aM (of_decide_eq_true bX) ?_));(try simp (maxSteps:=4000000) (disch:=omega) [gw,bE,bA,kR]);(repeat rw [if_pos bX]);(try simp (maxSteps:=4000000) (disch:=omega) [gw,bE,bA,kR])
     (try (refine aM (of_decide_eq_true bX) ?_));(try simp (maxSteps:=4000000) (disch:=omega) [gw,bE,bA,kR]);(repeat rw [if_pos bX]);(try simp (maxSteps:=4000000) (disch:=omega) [gw,bE,bA,kR])
     refine hK _ ⟨k',_,ak _ [2,3],aa,a',b',j+1,_,_,_,_,rfl,av,av,ha1,Ey,ha3,hb3,ga3,ga4,gb3,gb4,wa2,wb2,aa⟩
theorem ag1(h:p9 s n a)(h0:a≠0)(qe:1<=n)(hC:(qb (qb s n) n+n+6)*4^n<=4500000000)(hs:qb s n<=5000000):kS (qb s n) n (sq a):=by
 have h1:=(BE h0).1
 refine⟨⟨h.sqb h0,h.hn,?_,hC⟩,qe,h1,F0 h1 fun d d1 d2=>?_,hs⟩
 ·exact Nat.le_trans h.hs (Nat.pow_le_pow_right ar (by unfold qb;omega))
 ·have h3:=(ek (sq a) (bQ (sq a))).least d1 d2;rw [Ox h0]at h3;have:=h3.j2 ZX.mJ;rwa [ZX.tL]at this
theorem mW{β:Type}[Inhabited α][Inhabited β]{g:α->β}{l:List α}{i:Nat}(h:i<l.length):nth (l.map g) i=g (nth l i):=by rw [bJ (au h),bJ h,getElem_map]
abbrev G9(x:List Int)(an ad bn bd:Int):List PV:=[Po x, .bool (decide (an<0)),us (aI LL an.natAbs), .bool (decide (ad<0)),us (aI LL ad.natAbs), .bool (decide (bn<0)),us (aI LL bn.natAbs), .bool (decide (bd<0)),us (aI LL bd.natAbs)]
def Gy(sg:ZX->Int):Nat->ZX->Int
 | 0,_=>0
 | k+1,p=>if sg p=0 then Gy sg k (bQ p)else sg p
theorem oQ{sg:ZX->Int}(h0:sg 0=0):∀k,Gy sg k 0=0
 | 0=>rfl
 | k+1=>by have h1:bQ 0=0:=rfl;rw [Gy,if_pos h0,h1,oQ h0 k]
theorem LZ{sg:ZX->Int}(h0:sg 0=0):∀ {k j:Nat} {p:ZX},ZX.N p<=k->ZX.N p<=j->Gy sg k p=Gy sg j p
 | 0,j,p,h,_=>by
  have:p=0:=Classical.byContradiction fun h0=>by have:=ZX.ax.1 h0;omega
  rw [this,oQ h0,oQ h0]
 | k+1,0,p,_,h=>by
  have:p=0:=Classical.byContradiction fun h0=>by have:=ZX.ax.1 h0;omega
  rw [this,oQ h0,oQ h0]
 | k+1,j+1,p,h1,h2=>by rw [Gy,Gy];have:=mL p;rw [LZ h0 (k:=k) (j:=j) (p:=bQ p) aa aa]
theorem L0(g:FuncId)(hw:EZ g=false)(bF:List PV)(hc:bF.all cB=true)(sg:ZX->Int)(h0:sg 0=0){p:ZX}(hp:BZ s k p)(hk:k<=31)(hs:s<=1000000)(hg:∀(q:ZX) (s':Nat),s'<=s+5*k->BZ s' k q->aj g (Po q.l::bF) (ae (sg q)))(hm:vz g=false:=by rfl) :
  aj 244 [Po p.l, .fn g bF] (ae (Gy sg (ZX.N p) p)):=by
 have hN:=hp.N;have N1:=dW (x:=p.l) (hp.pb aa aa);rw [p.c]at N1;obtain⟨r,hr⟩:∃r,r=Gy sg (ZX.N p) p:=⟨_,rfl⟩
 rw [<-hr];apply bL [(0,Po p.l),(1, .fn g bF)] Tryz.func244;apply fB [0,1];apply gT N1 [0,1];apply W.block
 refine W.aO (fun m σ=>∃(q:ZX) (s':Nat),aQ σ [(0,Po q.l),(1, .fn g bF)] fun rows clk=>m=ZX.N q∧BZ s' k q∧s'+5*ZX.N q<=s+5*k∧Gy sg (ZX.N q) q=r) (ZX.N p) ?_ ?_
 ·exact⟨_, .refl,p,s,_,_,rfl,rfl,hp,aa,hr.symm⟩
 rintro m _ ⟨q,s',rows,clk,rfl,rfl,bq,hsq,hq⟩;have hNq:=bq.N;have hNl:ZX.N q=q.l.length:=rfl
 apply cS [0,1,10]<;>intro h
 ·have Jq:q≠0:=ZX.ax.2 (by show 0<q.l.length;simp at h;omega);have hgq:=hg q s' aa bq;have hD:=pw bq aa aa;have aty:ZX.N (bQ q)<ZX.N q:=by have:=mL q;have:=ZX.ax.1 Jq;omega
  have bd:=bq.bQ hk;obtain⟨j,hj⟩:∃j,ZX.N q=j+1:=⟨ZX.N q-1,by have:=ZX.ax.1 Jq;omega⟩
  rw [hj,Gy]at hq;generalize hv:sg q=w at *;apply (ft);apply W.sr;simp (disch:=omega) [gw, -EZ,hw, -vz,hm,hc];apply cT hgq;apply bM [0,1,5]
  apply fi [0,1,5,17]<;>intro h
  ·have hw:w≠0:=au h;rw [if_neg hw]at hq;subst hq;exact dS [4]
  ·have hw:w=0:=au h;rw [if_pos hw]at hq;apply W.skip;refine u9 hD fun K hK=>?_;refine hK _ ⟨ZX.N (bQ q),_,ak _ [0,1],aty,bQ q,s'+5,_,_,rfl,rfl,bd,aa,?_⟩;rw [<-hq];exact LZ h0 (Nat.le_refl _) aa
 ·have Jq:q=0:=by refine Classical.byContradiction fun h0=>?_;have h1:=ZX.ax.1 h0;simp at h;rw [hNl,h]at h1;simp at h1
  subst Jq;rw [oQ h0]at hq;subst hq;exact rb [4]
theorem L2{g:α->List PV}{l:List α}{m:Nat}{f:ZX}(hO:aj 265 [aw g l] (Po f.l))(hR:aj 18 [Po f.l] (.cW [aw (ga f) L,ae 0]))(hm:m=0):aj 255 [aw g l] (aw (ga f) L):=by
 apply bL [(0,aw g l)] Tryz.func255;apply aR [0];apply kh hO hR;apply bM [3,4]
 apply cS [3,12]<;>intro h
 ·simp at h
 apply W.skip;exact dS [2]
theorem L3{m:List Int}{f:ZX}(hx:x ≠ [])(hO:aj 205 [PI x] (PI f.l))(hR:aj 101 [PI f.l] (aw (qa f c) L)):aj 119 [PI x] (aw (qa f c) L):=by
 apply bL [(0,PI x)] Tryz.func119;apply aR [0]
 apply cS [0,5]<;>intro h
 ·simp at h;exact absurd h hx
 apply W.skip;apply kh hO hR;exact eK [2]
theorem ag2(na:Nf a):rS (oz a) (bQ (oz a)):=fun d h1 h2=>by
 refine Classical.byContradiction fun h3=>?_;have ho:=Vv na;have Uw:=h1.ne ho.ne;obtain⟨p,hp,hpd⟩:=mK _ d (Nat.le_refl _) aa;have hmu:=adb na hp;have hpo:dv p (oz a):=hpd.trans h1;have h4:1<=mu p (oz a):=(ja hp ho.ne).2 (by rw [show p^1=p by rw [pow_succ',dX];grind];exact hpo);have h5:mu p (oz a)=0+1:=by rw [hmu]at h4 |-;omega
 obtain⟨h6,h7⟩:=xo hp ho.ne h5;have h8:1<=mu p (bQ (oz a)):=(ja hp h6).2 (by rw [show p^1=p by rw [pow_succ',dX];grind];exact hpd.trans h2);omega
theorem Wv(h:p9 s n a)(h0:a≠0)(qe:1<=n)(hC:(qb (qb s n) n+n+6)*4^n<=4500000000)(hs:qb s n<=5000000):kS (qb s n) n (oz (nf a)):=by have na:=iM h0;have no:=Vv na;have hb:BZ (qb s n) n (oz (nf a)):=h.nfz.dv na no (zo na _ _);exact⟨⟨hb,h.hn,Nat.le_trans h.hs (Nat.pow_le_pow_right ar (by unfold qb;omega)),hC⟩,qe,no,F0 no (ag2 na),hs⟩
theorem IY(h:p9 s n a)(h0:a≠0)(qe:1<=n)(hC:(qb (qb s n) n+n+6)*4^n<=4500000000)(hs:qb s n<=20000):aj 255 [Po a.l] (aw (ga (oz (nf a))) (BO (qb s n) n (oz (nf a)))):=
 have I:=Wv h h0 qe hC aa
 L2 (aae h h0) (LU I.aaE I) rfl
theorem Ww{b:ZX}(na:Nf a)(nb:Nf b)(h:∀p,od p->mu p a=mu p b):a=b:=by have h1:=(jE na.ne nb.ne).2 fun p hp=>Nat.le_of_eq (h p hp);have h2:=(jE nb.ne na.ne).2 fun p hp=>Nat.le_of_eq (h p hp).symm;have:=rN h1 h2;rwa [na.XO,nb.XO]at this
theorem Wx(q:Rat):bQ (du q)=K (q.den:Int):=ext fun t=>by
 rw [Ie,uK];refine Lj fun h=>⟨0,?_⟩
 rw [du,Li,Li];simp only [V];grind
theorem F2{F:ZX}{v:Rat->Nat}(nF:Nf F)(cF:rS F (bQ F))(SF:pF F v)(hF:ZX.N F<=20){t hi:Rat}(h:t<hi)(hv:v t=v hi):∀(m:Nat) (p:ZX),ZX.N p<=m->p≠0->(∀q,od q->min (mu q p) 1<=mu q F) -> ∀s,t<s->s<=hi->e s p≠0∧bU (e s p)=bU (e hi p)
 | 0,p,hm,h0,_,_,_,_=>absurd hm (by have:=ZX.ax.1 h0;omega)
 | m+1,p,hm,h0,hmu,s,h1,h2=>by
  have hN:=ZX.ax.1 h0
  by_cases ZQ:ZX.N p<=1
  ·obtain⟨c,hc,rfl⟩:=ZX.j1 (x:=p) aa;rw [wN,wN];exact⟨fun h=>hc (Rat.intCast_eq_zero_iff.1 h),rfl⟩
  obtain⟨nf,hf⟩:=j5 h0;have hd:dv (sq p) F:=(jE nf.ne nF.ne).2 fun q hq=>by rw [hf q hq];exact hmu q hq
  obtain⟨w,S⟩:=j9 (h:=sq p) nF cF;have hg:gz F (sq p)=sq p:=Nf.rO S.ng nf fun q hq=>by rw [(ek F (sq p)).mu nF.ne nf.ne hq];have:=(jE nf.ne nF.ne).1 hd q hq;omega
  rw [hg]at S;have hSN:=S.N;have Sw:=rV S.nw.ne S.sw aa;have Sf:=rV S.ng.ne S.sg aa;have c1:=S.BP SF Sf Sw (Rat.le_of_lt h);have m1:=Sf.bI (Rat.le_of_lt h);have m2:=Sw.bI (Rat.le_of_lt h);have m3:=Sf.bI (Rat.le_of_lt h1);have m4:=Sf.bI h2;obtain⟨f1,f2⟩:=Sf.flat h1 aa
  have f3:bU (e hi (sq p))=bU (e s (sq p)):=by
   rcases Rat.le_iff_lt_or_eq.1 h2 with h3 | h3
   ·exact(Sf.flat h3 aa).2 f1
   ·rw [h3]
  obtain⟨c,hc,q,hq⟩:=pD h0;have Jq:q≠0:=fun h=>by rw [h]at hq;exact ZX.kB (ZX.oc hc) h0 (by rw [hq];grind)
  have CC:=congrArg ZX.N hq;rw [ZX.i9 (ZX.oc hc) h0,ZX.XN hc,ZX.i9 Jq nf.ne]at CC;have hfN:2<=ZX.N (sq p):=Nat.not_lt.1 fun h3=>by obtain⟨d,E5,GU⟩:=mK _ p (Nat.le_refl _) aa;have h5:=hf d E5;have h6:=(ja E5 h0 (k:=1)).2 (by rw [pow_succ',dX,show(1:ZX)*d=d by grind];exact GU);rw [nf.N1 aa,Ft E5]at h5;omega
  have hqm:∀r,od r->min (mu r q) 1<=mu r F:=fun r hr=>by have h3:=hmu r hr;have h4:=congrArg (mu r) hq;rw [rM hr (ZX.oc hc) h0,rM hr Jq nf.ne,Q4 hr hc]at h4;omega
  obtain⟨q1,q2⟩:=F2 nF cF SF hF h hv m q aa Jq hqm s h1 h2;have QS:(c:Rat)≠0:=fun h=>hc (Rat.intCast_eq_zero_iff.1 h);have g:∀x,(c:Rat)*e x p=e x q*e x (sq p):=fun x=>by rw [<-wN (t:=x) c,<-iC,hq,iC]
  refine⟨fun h3=>?_,?_⟩
  ·have h4:=g s;rw [h3,Rat.mul_zero]at h4
   rcases Rat.mul_eq_zero.1 h4.symm with h5 | h5
   ·exact q1 h5
   ·exact f1 h5
  ·rw [xz QS (g s),xz QS (g hi),q2,f3]
theorem uB(t:Rat):(du t).l = [-t.num,(t.den:Int)]:=iJ (x:=(t.den:Int)) (by have:=t.den_nz;omega) [-t.num]
theorem aaF{n:Int}(hN:aj 64 [Po x] (Po x))(hM:aj 90 [T2 n d, .sl []] (T2 n d)):aj 192 [.ag (G9 x n d n d)] (.ag (G9 x n d n d)):=by
 simp only [G9];apply bL [(0, .ag (G9 x n d n d))] Tryz.func192;apply gr [1,2];apply jK hN;apply eO hM hM
 (try (refine aM (of_decide_eq_true bX) ?_));(try simp (maxSteps:=4000000) (disch:=omega) [gw]);(repeat rw [if_pos bX]);(try simp (maxSteps:=4000000) (disch:=omega) [gw])
 exact qi [2]
theorem RB{n:Int}(hc:aj 86 [T2 n d,T2 n d] (ae 0)):aj 193 [.ag (G9 x n d n d)] (.bool true):=by simp only [G9];apply bL [(0, .ag (G9 x n d n d))] Tryz.func193;apply fk [1] hc [2];exact gK
theorem Wy{n:Int}(hl:q.length<1000000)(hr:q.length=0->r=0)(hq:aj 64 [Po q] (Po q))(hN:aj 64 [Po x] (Po x))(hM:aj 90 [T2 n d, .sl []] (T2 n d))(hc:aj 86 [T2 n d,T2 n d] (ae 0))(hs:aj 87 [Po q,T2 n d] (ae r)) :
  aj 246 [Po q, .ag (G9 x n d n d)] (ae r):=by
 have k1:=aaF hN hM;have k2:=RB (x:=x) hc;simp only [G9]at k1 k2 |-;apply bL [(0,Po q),(1, .ag (G9 x n d n d))] Tryz.func246;apply gr [0,3];apply eO hq k1
 (try (refine aM (of_decide_eq_true bX) ?_));(try simp (maxSteps:=4000000) (disch:=omega) [gw]);(repeat rw [if_pos bX]);(try simp (maxSteps:=4000000) (disch:=omega) [gw])
 (try (refine aM (of_decide_eq_true bX) ?_));(try simp (maxSteps:=4000000) (disch:=omega) [gw]);(repeat rw [if_pos bX]);(try simp (maxSteps:=4000000) (disch:=omega) [gw])
 apply c9 [0,3];apply W.seq
 by_cases h0:q.length=0
 ·rw [hr h0]
  apply fi [0,3,14]<;>intro h
  ·exact dS [4]
  ·simp at h;exact absurd (eq_nil_of_length_eq_zero h0) h
 ·apply fi [0,3,14]<;>intro h
  ·simp at h;rw [h]at h0;exact absurd rfl h0
  apply (jm)
  apply fH k2 [0,3,16]<;>intro h
  ·exact yN hs [4]
  ·simp at h
theorem RC(hN:aj 64 [Po x] (Po x))(h1:aj 90 [T2 an ad, .sl []] (T2 an ad))(h2:aj 90 [T2 bn bd, .sl []] (T2 bn bd)):aj 192 [.ag (G9 x an ad bn bd)] (.ag (G9 x an ad bn bd)):=by
 simp only [G9];apply bL [(0, .ag (G9 x an ad bn bd))] Tryz.func192;apply gr [1,2];apply jK hN;apply eO h1 h2
 (try (refine aM (of_decide_eq_true bX) ?_));(try simp (maxSteps:=4000000) (disch:=omega) [gw]);(repeat rw [if_pos bX]);(try simp (maxSteps:=4000000) (disch:=omega) [gw])
 exact qi [2]
theorem uC{z:Int}(hc:aj 86 [T2 an ad,T2 bn bd] (ae z)):aj 193 [.ag (G9 x an ad bn bd)] (.bool (decide (0<=z))):=by simp only [G9];apply bL [(0, .ag (G9 x an ad bn bd))] Tryz.func193;apply fk [1] hc [2];exact gK
theorem Wz{q':List Int}{n s s':Int}(h1:aj 87 [Po q,T2 n d] (ae s))(h2:aj 85 [Po q] (Po q'))(h3:aj 87 [Po q',T2 n d] (ae s')):aj 197 [Po q,T2 n d] (ae (if s=0 then s' else s)):=by
 apply bL [(0,Po q),(1,T2 n d)] Tryz.func197;apply fB [0,3];apply gT h1 [0,3,5]
 by_cases h0:s=0
 ·rw [if_pos h0]
  apply fi [0,3,5,10]<;>intro h
  ·simp at h;exact absurd h0 h
  apply W.skip;apply W.sd;apply eO h2 h3;exact eK [4]
 ·rw [if_neg h0]
  apply fi [0,3,5,10]<;>intro h
  ·exact dS [4]
  ·simp at h;exact absurd h h0
theorem WA{s:Int}(h1:aj 87 [Po q,T2 bn bd] (ae s))(h2:aj 197 [Po q,T2 an ad] (ae w)):aj 195 [Po q,T2 an ad,T2 bn bd] (.bool (decide (s=0∨s≠w))):=by
 apply bL [(0,Po q),(1,T2 an ad),(2,T2 bn bd)] Tryz.func195;apply fk [0,4,5] h1 [0,4,7]
 by_cases h0:s=0
 ·subst h0;exact dS [6]
 ·have hb:(s==0)=false:=au h0;apply lF hb h2;apply u6 hb [6];apply W.ret;simp [go,h0];by_cases hsw:s=w<;>simp [hsw]
theorem L4(hp:aj 193 [.ag (G9 x an ad bn bd)] (.bool true))(hc:aj 86 [T2 an ad,T2 tn td] (ae r)):aj 111 [.ag (G9 x an ad bn bd),T2 tn td] (ae r):=by
 simp only [G9]at *;apply bL [(0, .ag (G9 x an ad bn bd)),(1,T2 tn td)] Tryz.func111;apply aR [2,3];apply (iR)
 apply fH hp [2,3,6]<;>intro h
 ·exact yN hc [4]
 ·simp at h
theorem rX{z1 z2 s:Int}(hp:aj 193 [.ag (G9 x an ad bn bd)] (.bool false))(h1:aj 86 [T2 tn td,T2 an ad] (ae z1))(h2:aj 86 [T2 tn td,T2 bn bd] (ae z2))(h3:aj 87 [Po x,T2 tn td] (ae s))(h4:aj 197 [Po x,T2 an ad] (ae w))
  (hr:r=if z1<=0 then 1 else if 0<z2 then -1 else if s=0 then 0 else if s=w then 1 else -1):aj 111 [.ag (G9 x an ad bn bd),T2 tn td] (ae r):=by
 simp only [G9]at *;apply bL [(0, .ag (G9 x an ad bn bd)),(1,T2 tn td)] Tryz.func111;apply aR [2,3];apply (iR)
 apply fH hp [2,3,6]<;>intro h
 ·simp at h
 apply fH h1 [2,3,13]<;>intro h
 ·have h0:z1<=0:=au h;rw [if_pos h0]at hr;subst hr;exact dS [4]
 have h0:¬z1<=0:=au h;rw [if_neg h0]at hr
 apply fH h2 [2,3,19]<;>intro h
 ·have h0:0<z2:=au h;rw [if_pos h0]at hr;subst hr;exact dS [4]
 have h0:¬0<z2:=au h;rw [if_neg h0]at hr;apply rf h3 [2,5];apply (iR)
 apply fi [2,5,29]<;>intro h
 ·have h0:s=0:=au h;rw [if_pos h0]at hr;subst hr;exact dS [4]
 have h0:¬s=0:=au h;rw [if_neg h0]at hr
 apply fH h4 [32]<;>intro h
 ·have h0:s=w:=au h;rw [if_pos h0]at hr;subst hr;exact dS [4]
 ·have h0:¬s=w:=au h;rw [if_neg h0]at hr;subst hr;apply W.skip;exact dS [4]
theorem WB(hp:aj 193 [.ag (G9 x an ad bn bd)] (.bool true)):aj 254 [.ag (G9 x an ad bn bd)] (.ag (G9 x an ad bn bd)):=by
 simp only [G9]at *;apply bL [(0, .ag (G9 x an ad bn bd))] Tryz.func254;apply fB [1,2]
 apply fH hp [1,2,5]<;>intro h
 ·exact dS [2]
 ·simp at h
theorem RD{mn md c:Int}(hp:aj 193 [.ag (G9 x an ad bn bd)] (.bool false))(hm:aj 91 [T2 an ad,T2 bn bd] (T2 mn md))(hc:aj 111 [.ag (G9 x an ad bn bd),T2 mn md] (ae c)) :
  aj 254 [.ag (G9 x an ad bn bd)] (.ag (if c=0 then G9 x mn md mn md else if c = -1 then G9 x an ad mn md else G9 x mn md bn bd)):=by
 simp only [G9]at *;apply bL [(0, .ag (G9 x an ad bn bd))] Tryz.func254;apply fB [1,2]
 apply fH hp [1,2,5]<;>intro h
 ·simp at h
 apply rf hm [1,2,3]
 refine W.fR (fun σ=>∃(v1 v2:Nat),aQ σ [(1, .ptr 1 v1 0 0),(2, .ptr 2 v2 0 0)] fun rows clk=>rows 1=some ⟨v1,54,9,[if c=0 then G9 x mn md mn md else if c = -1 then G9 x an ad mn md else G9 x mn md bn bd]⟩∧rows 2=some ⟨v2,54,9,[[.nil, .bool false, .nil, .bool false, .nil, .bool false, .nil, .bool false, .nil]]⟩) ?_ ?_
 ·apply gT hc [1,2,3,14];apply W.block
  apply fi [1,2,3,14,17]<;>intro h
  ·have h0:c=0:=au h;rw [if_pos h0];refine W.Dd fun K hK=>?_;apply (cp)
   (try (refine aM (of_decide_eq_true bX) ?_));(try simp (maxSteps:=4000000) (disch:=omega) [gw]);(repeat rw [if_pos bX]);(try simp (maxSteps:=4000000) (disch:=omega) [gw])
   (try (refine aM (of_decide_eq_true bX) ?_));(try simp (maxSteps:=4000000) (disch:=omega) [gw]);(repeat rw [if_pos bX]);(try simp (maxSteps:=4000000) (disch:=omega) [gw])
   (try (refine aM (of_decide_eq_true bX) ?_));(try simp (maxSteps:=4000000) (disch:=omega) [gw]);(repeat rw [if_pos bX]);(try simp (maxSteps:=4000000) (disch:=omega) [gw])
   exact hK _ ⟨_,ak _ [1,2],_,_,_,_,rfl,av,av⟩
  have h0:¬c=0:=au h;rw [if_neg h0]
  apply fi [1,2,3,23]<;>intro h
  ·have h0:c = -1:=au h;rw [if_pos h0];refine bB fun K hK=>?_;exact hK _ ⟨_,ak _ [1,2],_,_,_,_,rfl,av,av⟩
  ·have h0:¬c = -1:=au h;rw [if_neg h0];refine bB fun K hK=>?_;exact hK _ ⟨_,ak _ [1,2],_,_,_,_,rfl,av,av⟩
 rintro _ ⟨v1,v2,rows,clk,rfl,tB,bE⟩
 by_cases h0:c=0
 ·rw [if_pos h0]at tB |-;apply oD tB bE [2];exact gK
 ·rw [if_neg h0]at tB |-
  by_cases h1:c = -1
  ·rw [if_pos h1]at tB |-;apply oD tB bE [2];exact gK
  ·rw [if_neg h1]at tB |-;apply oD tB bE [2];exact gK
def Gz(x:List Int):Nat->Int
 | 0=>0
 | i+1=>if Gz x i<bl (aI LL (nth x i).natAbs)then bl (aI LL (nth x i).natAbs)else Gz x i
theorem RF(hl:x.length<1000000)(hB:∀i,i<x.length->aj 257 [us (aI LL (nth x i).natAbs)] (ae (bl (aI LL (nth x i).natAbs)))∧0<=bl (aI LL (nth x i).natAbs)∧bl (aI LL (nth x i).natAbs)<1000000000000):aj 264 [Po x] (ae (Gz x x.length)):=by
 apply bL [(0,Po x)] Tryz.func264;apply eQ [0] [0,3];apply dU [3,6,7,8]
 refine W.aO (fun k σ=>∃(i:Nat),aQ σ [(3,ae (Gz x i)),(6,Po x),(7,ae x.length),(8,ae i)] fun rows clk=>(0<=Gz x i∧Gz x i<1000000000000)∧i+k=x.length) x.length ?_ ?_
 ·exact⟨_, .refl,0,_,_,rfl,⟨by show(0:Int)<=0;decide,by show(0:Int)<_;decide⟩,aa⟩
 rintro k _ ⟨i,rows,clk,rfl,hb,qu⟩
 apply ef [3,6,7,8,9]<;>intro h
 ·have hi:i<x.length:=by simp at h;omega
  obtain⟨h1,h0,h2⟩:=hB i hi;apply (ft);apply fj hi [3,5,6,7,8];refine u9 h1 fun K hK=>?_;rw [show(if Gz x i<bl (aI LL (nth x i).natAbs)then bl (aI LL (nth x i).natAbs)else Gz x i)=Gz x (i+1)from rfl];have wW:0<=Gz x (i+1)∧Gz x (i+1)<1000000000000:=by rw [Gz];split<;>omega
  refine W.lw [3,6,7,8] hK ?_;clear hK K;simp;refine bB fun K hK=>?_;refine hK _ ⟨k-1,_,ak _ [3,6,7,8],aa,i+1,_,_,rfl,wW,aa⟩
 ·have hi:i=x.length:=by simp at h;omega
  subst hi;exact rb [2]
theorem L5{cn cd dn dd b1 b2 b3 b4 zx zy:Int}(hx:x.length<=50)(hy:y.length<=50)(k1:aj 257 [us (aI LL an.natAbs)] (ae b1))(k2:aj 257 [us (aI LL bn.natAbs)] (ae b2))(k3:aj 257 [us (aI LL cn.natAbs)] (ae b3))(k4:aj 257 [us (aI LL dn.natAbs)] (ae b4))
  (l1:0<=b1∧b1<1000000000000) (l2:0<=b2∧b2<1000000000000) (l3:0<=b3∧b3<1000000000000) (l4:0<=b4∧b4<1000000000000) (sx:aj 264 [Po x] (ae zx)) (sy:aj 264 [Po y] (ae zy)) (m1:0<=zx∧zx<1000000000000) (m2:0<=zy∧zy<1000000000000) :
  aj 252 [.ag (G9 x an ad bn bd), .ag (G9 y cn cd dn dd)] (ae (64+2*(b1+b2+b3+b4)+4*((x.length:Int)+y.length)*(zx+zy+((x.length:Int)+y.length)+8))):=by
 have p1:0<=4*((x.length:Int)+y.length)*(zx+zy+((x.length:Int)+y.length)+8):=Int.mul_nonneg aa aa;have p2:4*((x.length:Int)+y.length)*(zx+zy+((x.length:Int)+y.length)+8)<=400*3000000000000:=Int.mul_le_mul aa aa aa ar;simp only [G9]at *;apply bL [(0, .ag (G9 x an ad bn bd)),(1, .ag (G9 y cn cd dn dd))] Tryz.func252;apply aR [2,3];apply gr [2,3,5];apply eO k1 k2;apply eO k3 k4;apply bM [2,3,5,6];apply W.sd;apply eO sx sy;exact eK [4]
theorem L6(hl:0<q.length)(AV:q.length<1000000)(hq:aj 64 [Po q] (Po q))(hN:aj 192 [.ag (G9 x an ad bn bd)] (.ag (G9 x an ad bn bd)))(hp:aj 193 [.ag (G9 x an ad bn bd)] (.bool false))(hG:aj 194 [.sl [[Po q],[Po x]]] (Po g))(hD:aj 83 [Po g] (ae dg))(h0:0<dg)
  (hh:aj 195 [Po g,T2 an ad,T2 bn bd] (.bool true)):aj 246 [Po q, .ag (G9 x an ad bn bd)] (ae 0):=by
 have km:q ≠ []:=fun h=>by rw [h]at hl;simp at hl
 simp only [G9]at *;apply bL [(0,Po q),(1, .ag (G9 x an ad bn bd))] Tryz.func246;apply gr [0,3];apply eO hq hN
 (try (refine aM (of_decide_eq_true bX) ?_));(try simp (maxSteps:=4000000) (disch:=omega) [gw]);(repeat rw [if_pos bX]);(try simp (maxSteps:=4000000) (disch:=omega) [gw])
 (try (refine aM (of_decide_eq_true bX) ?_));(try simp (maxSteps:=4000000) (disch:=omega) [gw]);(repeat rw [if_pos bX]);(try simp (maxSteps:=4000000) (disch:=omega) [gw])
 apply c9 [0,3]
 apply cS [0,3,14]<;>intro h
 ·simp at h;exact absurd h km
 apply (jm)
 apply fH hp [0,3,16]<;>intro h
 ·simp at h
 apply (jm);apply gT hG [0,3,5];apply lE hD;apply iI h0 hh
 apply kt [0,3,36]<;>intro h
 ·exact dS [4]
 ·simp at h
theorem WC{gc:α->List PV}{C:List α}{an ad bn bd:Nat->Int}{N J:Nat}(hl:0<q.length)(AV:q.length<1000000)(hq:aj 64 [Po q] (Po q))(hN:aj 192 [.ag (G9 x (an 0) (ad 0) (bn 0) (bd 0))] (.ag (G9 x (an 0) (ad 0) (bn 0) (bd 0))))(hp:aj 193 [.ag (G9 x (an 0) (ad 0) (bn 0) (bd 0))] (.bool false))(hG:aj 194 [.sl [[Po q],[Po x]]] (Po g))
  (hD:aj 83 [Po g] (ae dg)) (hh:0<dg->aj 195 [Po g,T2 (an 0) (ad 0),T2 (bn 0) (bd 0)] (.bool false)) (hC:aj 69 [Po q] (.cW [.rd [aw gc C],ae 0])) (hs:aj 252 [.ag (G9 x (an 0) (ad 0) (bn 0) (bd 0)), .ag (G9 q 0 0 0 0)] (ae N)) (CC:N<1000000000000000)
  (hb:∀j,j<J->aj 193 [.ag (G9 x (an j) (ad j) (bn j) (bd j))] (.bool false)∧(∃z:Int,aj 88 [.rd [aw gc C],T2 (an j) (ad j),T2 (bn j) (bd j)] (ae z)∧(z==0)=false)∧aj 254 [.ag (G9 x (an j) (ad j) (bn j) (bd j))] (.ag (G9 x (an (j+1)) (ad (j+1)) (bn (j+1)) (bd (j+1)))))
  (hJ:J<=N) (g9:J<N->aj 193 [.ag (G9 x (an J) (ad J) (bn J) (bd J))] (.bool true)∨aj 193 [.ag (G9 x (an J) (ad J) (bn J) (bd J))] (.bool false)∧aj 88 [.rd [aw gc C],T2 (an J) (ad J),T2 (bn J) (bd J)] (ae 0)) (hr:aj 87 [Po q,T2 (bn J) (bd J)] (ae r)) :
  aj 246 [Po q, .ag (G9 x (an 0) (ad 0) (bn 0) (bd 0))] (ae r):=by
 have km:q ≠ []:=fun h=>by rw [h]at hl;simp at hl
 replace hs:aj 252 [.ag (G9 x (an 0) (ad 0) (bn 0) (bd 0)), .ag [Po q, .bool false, .sl [], .bool false, .sl [], .bool false, .sl [], .bool false, .sl []]] (ae N):=hs
 simp only [G9]at *;apply bL [(0,Po q),(1, .ag (G9 x (an 0) (ad 0) (bn 0) (bd 0)))] Tryz.func246;apply gr [0,3];apply eO hq hN
 (try (refine aM (of_decide_eq_true bX) ?_));(try simp (maxSteps:=4000000) (disch:=omega) [gw]);(repeat rw [if_pos bX]);(try simp (maxSteps:=4000000) (disch:=omega) [gw])
 (try (refine aM (of_decide_eq_true bX) ?_));(try simp (maxSteps:=4000000) (disch:=omega) [gw]);(repeat rw [if_pos bX]);(try simp (maxSteps:=4000000) (disch:=omega) [gw])
 apply c9 [0,3]
 apply cS [0,3,14]<;>intro h
 ·simp at h;exact absurd h km
 apply (jm)
 apply fH hp [0,3,16]<;>intro h
 ·simp at h
 apply (jm);apply gT hG [0,3,5]
 refine W.dx (fun σ=>∃(v3:Nat),aQ σ [(0,Po q),(3, .ptr 3 v3 0 0),(36, .bool false)] fun rows clk=>rows 3=some ⟨v3,54,9,[G9 x (an 0) (ad 0) (bn 0) (bd 0)]⟩) (fun K hK=>?_) ?_
 ·by_cases h0:0<dg
  ·have hh':=hh h0;apply jK hD;apply iI h0 hh';apply (cp);refine hK _ _ (ak _ [0,3,36]) ⟨_,_,_,rfl,av⟩
  ·apply jK hD;apply dB h0;refine hK _ _ (ak _ [0,3,36]) ⟨_,_,_,rfl,av⟩
 rintro _ ⟨v3,rows,clk,rfl,bA⟩;simp only [G9]at bA
 apply (dI)<;>intro h
 ·simp at h
 apply rf hC [0,3,6]
 refine W.fR (fun σ=>∃(v3:Nat),aQ σ [(0,Po q),(3, .ptr 3 v3 0 0)] fun rows clk=>rows 3=some ⟨v3,54,9,[G9 x (an J) (ad J) (bn J) (bd J)]⟩) ?_ ?_
 ·apply lF bA hs;apply bM [0,3,6,45,46];apply W.block
  refine W.aO (fun k σ=>∃(j v3:Nat),aQ σ [(0,Po q),(3, .ptr 3 v3 0 0),(6, .rd [aw gc C]),(45,ae N),(46,ae j)] fun rows clk=>rows 3=some ⟨v3,54,9,[G9 x (an j) (ad j) (bn j) (bd j)]⟩∧j+k=J) J ?_ ?_
  ·exact⟨_, .refl,0,_,_,_,rfl,by simp [bA],aa⟩
  rintro k _ ⟨j,v3,rows,clk,rfl,bA,Ta⟩;simp only [G9]at bA
  apply ef [0,3,6,45,46,47]<;>intro h
  ·have hjN:j<N:=(by simp at h;omega);apply (ft);apply W.seq
   by_cases VV:j<J
   ·obtain⟨g1,⟨z,g2,g3⟩,g4⟩:=hb j VV;apply lF bA g1;apply iI bA g2;simp (disch:=omega) [gw,g3]
    apply u7 [0,3,6,45,46,58]<;>intro h
    ·simp at h
    apply W.skip;refine AD bA g4 fun K hK=>?_;apply dB bA;refine W.lw [0,3,6,45,46] hK ?_;clear hK K;simp;refine bB fun K hK=>?_;refine hK _ ⟨k-1,_,ak _ [0,3,6,45,46],aa,j+1,v3,_,_,rfl,av,aa⟩
   ·have hjE:j=J:=(by omega);subst hjE
    rcases g9 hjN with g1 | ⟨g1,g2⟩
    ·apply lF bA g1
     apply kt [0,3,6,45,46,58]<;>intro h
     ·apply (ey);exact⟨_,ak _ [0,3],_,_,_,rfl,bA⟩
     ·simp at h
    ·apply lF bA g1;apply iI bA g2
     apply kt [0,3,6,45,46,58]<;>intro h
     ·apply (ey);exact⟨_,ak _ [0,3],_,_,_,rfl,bA⟩
     ·simp at h
  ·have hjE:j=J:=(by simp at h;omega);subst hjE;apply (ey);exact⟨_,ak _ [0,3],_,_,_,rfl,bA⟩
 rintro _ ⟨v3,rows,clk,rfl,bA⟩;simp only [G9]at bA;apply lF bA hr;exact eK [4]
theorem aaG{p:ZX}(sg:ZX->Int)(h0:sg 0=0)(hp:BZ s k p)(hk:k<=31)(hs:s<=1000000)(Ir:∀(q:ZX) (s':Nat),s'<=s+5*k->BZ s' k q->aj 246 [Po q.l, .ag (G9 x an ad bn bd)] (ae (sg q))) :
  aj 185 [Po p.l, .ag (G9 x an ad bn bd)] (ae (Gy sg (ZX.N p) p)):=by
 have h1:∀(q:ZX) (s':Nat),s'<=s+5*k->BZ s' k q->aj 245 [Po q.l, .rd (G9 x an ad bn bd)] (ae (sg q)):=fun q s' wF bq=>by have k6:=Ir q s' wF bq;simp only [G9]at k6 |-;generalize sg q=r at *;apply bL [(0,Po q.l),(1, .rd (G9 x an ad bn bd))] Tryz.func245;apply fk [0,1] k6 [3];exact gK
 have F1:=L0 245 rfl [.rd (G9 x an ad bn bd)] rfl sg h0 hp hk hs h1;simp only [G9]at F1 |-;generalize Gy sg (ZX.N p) p=r at *;apply bL [(0,Po p.l),(1, .ag (G9 x an ad bn bd))] Tryz.func185;apply fk [0,3] F1 [4];exact gK
theorem rY(q:ZX)(bq:BZ s' k q)(hs:s'<=1000000000)(hk:k<=100)(qt:SQ u t)(hu:u<=1000000000):aj 87 [Po q.l,RT t] (ae (bU (e t q))):=by have hm:k*(u+1)<=100*(u+1):=Nat.mul_le_mul_right _ hk;have k2:=DV (Gw bq) q.c qt.nL qt.dL qt.hu aa aa aa (aX t) ⟨qt.nL,qt.dL⟩;rwa [vZ]at k2
section
variable {s n u:Nat} {f:ZX} (I:kS s n f)
include I
theorem zI(hs:s<=1000000)(qt:SQ u t)(hu:u<=1000000000):aj 197 [Po f.l,RT t] (ae (BJ f t)):=by
 have hn:=I.ch.hn;have h1:=rY f I.ch.bz aa aa qt hu;have h2:=pw I.ch.bz aa aa;have h3:=rY (bQ f) (I.ch.bz.bQ aa) aa aa qt hu;have:=Wz (n:=t.num) (d:=t.den) h1 h2 h3
 have e1:(if bU (e t f)=0 then bU (e t (bQ f))else bU (e t f))=BJ f t:=by
  unfold BJ
  by_cases h:e t f=0
  ·rw [if_pos h,if_pos (by rw [h,jd])]
  ·rw [if_neg h,if_neg (fun h0=>h (eo.1 h0))]
 rw [e1]at this;exact this
theorem WD(hs:s<=1000000)(A:j7 f (vt (aH f)) p.1 p.2){m:Rat}(h1:p.1<m)(h2:m<=p.2)(q1:SQ u p.1)(q2:SQ u p.2)(qm:SQ u m)(hu:u<=1000000000) :
  aj 111 [GA f p,RT m] (ae (if e m f=0 then 0 else if vt (aH f) m<vt (aH f) p.1 then -1 else 1)):=by
 have bZ:p.1<p.2:=aG;have z0:=cX q1.nL q1.dL q2.nL q2.dL aa (aX p.1) (aX p.2) ⟨q1.nL,q1.dL⟩ ⟨q2.nL,q2.dL⟩;have z1:=cX qm.nL qm.dL q1.nL q1.dL aa (aX m) (aX p.1) ⟨qm.nL,qm.dL⟩ ⟨q1.nL,q1.dL⟩;have z2:=cX qm.nL qm.dL q2.nL q2.dL aa (aX m) (aX p.2) ⟨qm.nL,qm.dL⟩ ⟨q2.nL,q2.dL⟩;have hp:=uC (x:=f.l) z0;have lT:¬0<=dc (p.1.num*(p.2.den:Int)) (p.2.num*(p.1.den:Int)):=by have:=(fF (p:=p.1) (q:=p.2)).2 bZ;omega
 rw [decide_eq_false lT]at hp;have Ir:=rY f I.ch.bz aa (by have:=I.ch.hn;omega) qm hu;have hlw:=zI I hs q1 hu;refine rX hp z1 z2 Ir hlw ?_;have g1:¬dc (m.num*(p.1.den:Int)) (p.1.num*(m.den:Int))<=0:=fun h=>absurd (je.1 h) (Rat.not_le.2 h1);have g2:¬0<dc (m.num*(p.2.den:Int)) (p.2.num*(m.den:Int)):=fun h=>absurd (fE.1 h) (Rat.not_lt.2 h2);have F3:=I.S.par (Rat.le_of_lt h1)
 have hv:vt (aH f) p.1=vt (aH f) p.2+1:=by
  rcases A.k with ⟨h,_⟩ | ⟨_,h⟩
  ·rw [h]at bZ;exact absurd bZ Rat.lt_irrefl
  ·exact h
 have m1:=I.S.bI (Rat.le_of_lt h1);have m2:=I.S.bI h2;rw [if_neg g1,if_neg g2]
 by_cases h0:e m f=0
 ·rw [if_pos h0,if_pos (by rw [h0,jd])]
 ·have h3:¬bU (e m f)=0:=fun h=>h0 (eo.1 h);rw [if_neg h0,if_neg h3];have h4:BJ f m=bU (e m f):=by unfold BJ;rw [if_neg h0]
  rw [h4]at F3
  by_cases h5:vt (aH f) m<vt (aH f) p.1
  ·rw [if_pos h5,if_neg];intro h6;rw [show vt (aH f) p.1-vt (aH f) m=1 by omega,show XR 1 = -1 from rfl]at F3;omega
  ·rw [if_neg h5,if_pos];rw [show vt (aH f) p.1-vt (aH f) m=0 by omega,show XR 0=1 from rfl,Int.one_mul]at F3;exact F3
end
def tf(f:ZX)(p:Rat × Rat):Rat × Rat:=if p.1<p.2 then(if e ((p.1+p.2)/2) f=0 then((p.1+p.2)/2,(p.1+p.2)/2)else if vt (aH f) ((p.1+p.2)/2)<vt (aH f) p.1 then(p.1,(p.1+p.2)/2)else((p.1+p.2)/2,p.2))else p
theorem BQ{f:ZX}(I:kS s n f)(hs:s<=1000000)(A:j7 f (vt (aH f)) p.1 p.2)(q1:SQ u p.1)(q2:SQ u p.2)(qm:SQ u ((p.1+p.2)/2))(hu:u<=1000000000):aj 254 [GA f p] (GA f (tf f p)):=by
 have z0:=cX q1.nL q1.dL q2.nL q2.dL aa (aX p.1) (aX p.2) ⟨q1.nL,q1.dL⟩ ⟨q2.nL,q2.dL⟩;have hp:=uC (x:=f.l) z0;unfold tf
 by_cases bZ:p.1<p.2
 ·rw [if_pos bZ];have lT:¬0<=dc (p.1.num*(p.2.den:Int)) (p.2.num*(p.1.den:Int)):=by have:=(fF (p:=p.1) (q:=p.2)).2 bZ;omega
  rw [decide_eq_false lT]at hp;obtain⟨m1,m2⟩:=oh bZ;have hm:=IH (q1.LLs (Nat.le_refl _)) (q2.LLs (Nat.le_refl _)) aa;have hc:=WD I hs A m1 (Rat.le_of_lt m2) q1 q2 qm hu;generalize (p.1+p.2)/2=m at *;have k:=RD hp hm hc
  by_cases h0:e m f=0
  ·rw [if_pos h0,if_pos rfl]at k;rw [if_pos h0];exact k
  ·rw [if_neg h0]at k;rw [if_neg h0]
   by_cases h5:vt (aH f) m<vt (aH f) p.1
   ·rw [if_pos h5,if_neg ar,if_pos rfl]at k;rw [if_pos h5];exact k
   ·rw [if_neg h5,if_neg ar,if_neg ar]at k;rw [if_neg h5];exact k
 ·rw [if_neg bZ];have lT:0<=dc (p.1.num*(p.2.den:Int)) (p.2.num*(p.1.den:Int)):=by have:=mt (fF (p:=p.1) (q:=p.2)).1 bZ;omega
  rw [decide_eq_true lT]at hp;exact WB hp
theorem ke{f:ZX}(A:j7 f (vt (aH f)) p.1 p.2):j7 f (vt (aH f)) (tf f p).1 (tf f p).2∧(∀t,bk f (tf f p) t↔bk f p t)∧p.1<=(tf f p).1∧(tf f p).2<=p.2∧((tf f p).2-(tf f p).1)*2<=p.2-p.1:=by
 unfold tf
 by_cases bZ:p.1<p.2
 ·rw [if_pos bZ];obtain⟨m1,m2⟩:=oh bZ;obtain⟨d1,d2⟩:=A.half m1 m2;have e2:(p.1+p.2)/2*2=p.1+p.2:=Rat.div_mul_cancel ar;have hr:=fun h0=>A.S.root m2 (t:=p.2) (s:=(p.1+p.2)/2) h0;generalize (p.1+p.2)/2=m at *
  by_cases h0:e m f=0
  ·rw [if_pos h0]
   have h5:vt (aH f) m<vt (aH f) p.1:=by
    have hv:vt (aH f) p.1=vt (aH f) p.2+1:=by
     rcases A.k with ⟨h,_⟩ | ⟨_,h⟩
     ·rw [h]at bZ;exact absurd bZ Rat.lt_irrefl
     ·exact h
    refine Nat.not_le.1 fun h6=>?_;have h7:=A.S.bI (Rat.le_of_lt m1);exact(A.S.flat m1 aa).1 h0
   obtain⟨a1,a2⟩:=d1 h5;obtain⟨b1,b2⟩:=a1.exact h0;exact⟨b1,fun t=>(b2 t).trans (a2 t),Rat.le_of_lt m1,Rat.le_of_lt m2,by show(m-m)*2<=_;grind⟩
  ·rw [if_neg h0]
   by_cases h5:vt (aH f) m<vt (aH f) p.1
   ·rw [if_pos h5];obtain⟨a1,a2⟩:=d1 h5;exact⟨a1,a2,Rat.le_refl,Rat.le_of_lt m2,by show(m-p.1)*2<=_;grind⟩
   ·rw [if_neg h5];obtain⟨a1,a2⟩:=d2 h5;exact⟨a1,a2,Rat.le_of_lt m1,Rat.le_refl,by show(p.2-m)*2<=_;grind⟩
 ·rw [if_neg bZ];have:=A.le;exact⟨A,fun t=>Iff.rfl,Rat.le_refl,Rat.le_refl,aG⟩
theorem OJ{g:ZX}(I:kS s n g)(hs:s<=1000000){lo hi:Rat}(h:lo<hi)(hv:vt (aH g) lo<=vt (aH g) hi+1)(q1:SQ u lo)(q2:SQ u hi)(hu:u<=1000000000):aj 195 [Po g.l,RT lo,RT hi] (.bool (decide (vt (aH g) hi<vt (aH g) lo))):=by
 have h1:=rY g I.ch.bz aa (by have:=I.ch.hn;omega) q2 hu;have h2:=zI I hs q1 hu;have k:=WA (an:=lo.num) (ad:=lo.den) (bn:=hi.num) (bd:=hi.den) h1 h2;have m1:=I.S.bI (Rat.le_of_lt h)
 have e1:decide (bU (e hi g)=0∨bU (e hi g)≠BJ g lo)=decide (vt (aH g) hi<vt (aH g) lo):=by
  refine decide_eq_decide.2 ?_
  by_cases h0:e hi g=0
  ·refine⟨fun _=>Nat.not_le.1 fun h5=>(I.S.flat h aa).1 h0,fun _ => .inl (by rw [h0,jd])⟩
  ·have h3:bU (e hi g)≠0:=fun h=>h0 (eo.1 h);have F3:=I.S.par (Rat.le_of_lt h);have h4:BJ g hi=bU (e hi g):=(by unfold BJ;rw [if_neg h0]);rw [h4]at F3
   by_cases h5:vt (aH g) hi<vt (aH g) lo
   ·rw [show vt (aH g) lo-vt (aH g) hi=1 by omega,show XR 1 = -1 from rfl]at F3;exact⟨fun _=>h5,fun _ => .inr fun h6=>by omega⟩
   ·rw [show vt (aH g) lo-vt (aH g) hi=0 by omega,show XR 0=1 from rfl,Int.one_mul]at F3;exact⟨fun h6=>(h6.elim (fun h7=>h3 h7) (fun h7=>h7 F3)).elim,fun h6=>absurd h6 h5⟩
 rw [e1]at k;exact k
def gB(f:ZX)(p:Rat × Rat):Nat->Rat × Rat
 | 0=>p
 | j+1=>tf f (gB f p j)
theorem L7{f:ZX}{B:Rat}(h1:Gr D B j p.1)(h2:Gr D B j p.2):Gr D B (j+1) (tf f p).1∧Gr D B (j+1) (tf f p).2:=by
 have hm:=h1.A3 h2;unfold tf
 split
 ·split
  ·exact⟨hm,hm⟩
  ·split
   ·exact⟨h1.mono aa,hm⟩
   ·exact⟨hm,h2.mono aa⟩
 ·exact⟨h1.mono aa,h2.mono aa⟩
theorem BR{f:ZX}{p:Rat × Rat}(A:j7 f (vt (aH f)) p.1 p.2){D:Nat}{B:Rat}(h1:Gr D B 0 p.1)(h2:Gr D B 0 p.2):∀j,j7 f (vt (aH f)) (gB f p j).1 (gB f p j).2∧(∀t,bk f (gB f p j) t↔bk f p t)∧p.1<=(gB f p j).1∧(gB f p j).2<=p.2∧((gB f p j).2-(gB f p j).1)*2^j<=p.2-p.1∧Gr D B j (gB f p j).1∧Gr D B j (gB f p j).2
 | 0=>⟨A,fun _=>Iff.rfl,Rat.le_refl,Rat.le_refl,by rw [Rat.pow_zero,Rat.mul_one];exact Rat.le_refl,h1,h2⟩
 | j+1=>by obtain⟨a1,a2,a3,a4,a5,a6,a7⟩:=BR A h1 h2 j;obtain⟨b1,b2,b3,b4,b5⟩:=ke a1;obtain⟨c1,c2⟩:=L7 (f:=f) a6 a7;refine⟨b1,fun t=>(b2 t).trans (a2 t),by show _<=(tf f (gB f p j)).1;grind,by show(tf f (gB f p j)).2<=_;grind,?_,c1,c2⟩;show((tf f (gB f p j)).2-(tf f (gB f p j)).1)*2^(j+1)<=_;have hP:=eU j;have g3:=Rat.mul_le_mul_of_nonneg_right b5 (Rat.le_of_lt hP);rw [Rat.pow_succ];grind
structure WG(U:Rat->Prop):Prop where
 up:∀s t,U s->s<=t->U t
 lo:∃s,¬U s
 hi:∃t,U t
namespace WG
variable {U:Rat->Prop} (H:WG U)
include H
theorem lt{s:Rat}(h1:¬U s)(h2:U t):s<t:=Rat.not_le.1 fun h=>h1 (H.up t s h2 h)
theorem inter{s s' t':Rat}(h1:¬U s)(h2:U t)(h3:¬U s')(h4:U t'):∃a b,¬U a∧U b∧s<=a∧s'<=a∧b<=t∧b<=t'∧a<b:=by
 obtain⟨a,a1,a2,a3⟩:∃a,¬U a∧s<=a∧s'<=a:=by
  by_cases h:s<=s'
  ·exact⟨s',h3,h,Rat.le_refl⟩
  ·exact⟨s,h1,Rat.le_refl,aG⟩
 obtain⟨b,b1,b2,b3⟩:∃b,U b∧b<=t∧b<=t':=by
  by_cases h:t<=t'
  ·exact⟨t,h2,Rat.le_refl,h⟩
  ·exact⟨t',h4,aG,Rat.le_refl⟩
 exact⟨a,b,a1,b1,a2,a3,b2,b3,H.lt a1 b1⟩
end WG
def Up(U:Rat->Prop)(x:Rat):Prop:=∃s,s<x∧U s
def Sn(U:Rat->Prop)(q:ZX)(σ:Int):Prop:=∃ε s t:Rat,0<ε∧¬U s∧U t ∧ ∀x,s<x->x<=t->bU (e x q)=σ∧jM ε (e x q)
def L8(U:Rat->Prop)(q:ZX):Prop:=∀ε:Rat,0<ε -> ∃s t,¬U s∧U t ∧ ∀x,s<=x->x<=t->Ab (e x q) ε
def Ju(U:Rat->Prop)(q:ZX)(σ:Int):Prop:=(σ=0∧L8 U q)∨((σ=1∨σ = -1)∧Sn U q σ)
theorem Sn.OK(H:WG U){q:ZX}(h:Sn U q σ):¬L8 U q:=fun h2=>by obtain⟨ε,s,t,h0,h1,h2',h3⟩:=h;obtain⟨s',t',h4,h5,h6⟩:=h2 (ε/2) aG;obtain⟨a,b,g1,g2,g3,g4,g5,g6,g7⟩:=H.inter h1 h2' h4 h5;have k1:=(h3 b aG g5).2;obtain⟨k2,k3⟩:=h6 b aG g6;rcases k1 with k1 | k1<;>grind
theorem Ju.uniq(H:WG U){q:ZX}{τ:Int}(h:Ju U q σ)(h':Ju U q τ):σ=τ:=by
 rcases h with ⟨rfl,h⟩ | ⟨h1,h⟩
 ·rcases h' with ⟨rfl,h'⟩ | ⟨_,h'⟩
  ·rfl
  ·exact absurd h (h'.OK H)
 ·rcases h' with ⟨_,h'⟩ | ⟨_,h'⟩
  ·exact absurd h' (h.OK H)
  ·obtain⟨ε,s,t,_,h2,h3,h4⟩:=h;obtain⟨ε',s',t',_,h5,h6,h7⟩:=h';obtain⟨a,b,g1,g2,g3,g4,g5,g6,g7⟩:=H.inter h2 h3 h5 h6;rw [<-(h4 b aG g5).1,<-(h7 b aG g6).1]
noncomputable def OL(U:Rat->Prop)(q:ZX):Int:=open Classical in if h:∃σ,Ju U q σ then h.choose else 0
theorem Ju.eq(H:WG U){q:ZX}(h:Ju U q σ):OL U q=σ:=by
 have h1:∃σ,Ju U q σ:=⟨σ,h⟩
 unfold OL;rw [dif_pos h1];exact h1.choose_spec.uniq H h
theorem wq(H:WG U):L8 U 0:=fun ε hε=>by obtain⟨s,hs⟩:=H.lo;obtain⟨t,ht⟩:=H.hi;refine⟨s,t,hs,ht,fun x _ _=>?_⟩;have:e x 0=0:=rfl;rw [this];exact⟨aG,aG⟩
theorem L8.mul{U:Rat->Prop}(H:WG U){g:ZX}(h:L8 U g)(k:ZX):L8 U (k*g):=fun ε hε=>by
 obtain⟨s0,hs⟩:=H.lo;obtain⟨t0,ht⟩:=H.hi;obtain⟨B,hB,ha,hb⟩:=iU s0 t0;obtain⟨Q,hQ,hl⟩:=lip k B hB;obtain⟨M,hM,hm,_⟩:=iU (e s0 k) 0;have g9:=H.lt hs ht;have hC:0<M+(t0-s0)*Q:=by have:=Rat.mul_pos (show 0<t0-s0 by grind) hQ;grind
 have hk:∀x,s0<=x->x<=t0->Ab (e x k) (M+(t0-s0)*Q):=fun x h1 h2=>by have h3:=hl s0 x ha (bR ha hb h1 h2) h1;have h4:(x-s0)*Q<=(t0-s0)*Q:=Rat.mul_le_mul_of_nonneg_right aG (Rat.le_of_lt hQ);obtain⟨p1,p2⟩:=h3;obtain⟨p3,p4⟩:=hm;exact⟨aG,aG⟩
 generalize M+(t0-s0)*Q=C at *;have e1:ε/C*C=ε:=Rat.div_mul_cancel (Rat.ne_of_gt hC);obtain⟨s,t,g1,g2,g3⟩:=h (ε/C) ((Rat.lt_div_iff hC).2 aG);obtain⟨a,b,k1,k2,k3,k4,k5,k6,k7⟩:=H.inter hs ht g1 g2;refine⟨a,b,k1,k2,fun x h1 h2=>?_⟩;have h3:=(hk x aG aG).mul (g3 x aG aG);rw [iC];refine h3.mono ?_;grind
theorem L8.CD{c:Int}(hc:c≠0){q:ZX}(h:L8 U (K c*q)):L8 U q:=fun ε hε=>by
 obtain⟨s,t,h1,h2,h3⟩:=h ε hε;refine⟨s,t,h1,h2,fun x h4 h5=>?_⟩;have h6:=h3 x h4 h5;rw [iC,wN]at h6;have h7:=sS hc;obtain⟨p1,p2⟩:=h6;generalize (c:Rat)=C,e x q=y at *
 have key:∀C y:Rat,1<=C->C*y<=ε -> -ε<=C*y->Ab y ε:=fun C y h1 h2 h3=>by
  refine⟨Rat.not_lt.1 fun h=>?_,Rat.not_lt.1 fun h=>?_⟩
  ·have:=Rat.mul_le_mul_of_nonneg_right h1 (show 0 <= -y by grind);grind
  ·have:=Rat.mul_le_mul_of_nonneg_right h1 (show 0<=y by grind);grind
 rcases h7 with h7 | h7
 ·have:=key (-C) (-y) aG aG aG;obtain⟨q1,q2⟩:=this;exact⟨aG,aG⟩
 ·exact key C y h7 p2 p1
theorem L8.dv(H:WG U){g q:ZX}(h:L8 U g)(hd:dv g q):L8 U q:=by obtain⟨c,hc,k,hk⟩:=hd;have h1:=h.mul H k;rw [<-hk]at h1;exact h1.CD hc
theorem IZ(H:WG U){w:ZX}{φ:Rat->Nat}(S:pF w φ){s0 t0:Rat}(h1:¬U s0)(h2:U t0)(ht:∀s t,s0<=s->t<=t0->¬U s->U t->φ s≠φ t):L8 U w:=fun ε hε=>by obtain⟨B,hB,ha,hb⟩:=iU s0 t0;obtain⟨Q,hQ,hl⟩:=lip w B hB;have e1:ε/Q*Q=ε:=Rat.div_mul_cancel (Rat.ne_of_gt hQ);have e2:0<ε/Q:=(Rat.lt_div_iff hQ).2 aG;obtain⟨s,t,g1,g2,g3,g4,g5,g6⟩:=zH (U:=U) e2 (H.lt h1 h2) h1 h2;refine⟨s,t,g5,g6,fun x hx hy=>?_⟩;have h3:=S.small g2 (ht s t g1 g3 g5 g6) hQ (fun a b q1 q2 q3=>hl a b (bR ha hb aG aG) (bR ha hb aG aG) q2) hx hy;refine h3.mono ?_;have h4:=Rat.mul_le_mul_of_nonneg_right g4 (Rat.le_of_lt hQ);grind
theorem Up.min{s:Rat}(hs:Up U s)(ht:Up U t):∃x,Up U x∧x<=s∧x<=t:=by
 by_cases h:s<=t
 ·exact⟨s,hs,Rat.le_refl,h⟩
 ·exact⟨t,ht,aG,Rat.le_refl⟩
end Go.Proofs.YtiobceocpabjdaaGreat
namespace Go.Proofs.YtiobceocpabjdaaGreat
open Go Pm List
open ZX hiding N W
variable {n z s r m β k s' u J:Nat}{l:List (ZX × Rat × Rat)}{t lo hi ε:Rat}{v:Rat->Nat}{g w q:ZX}{p:Rat × Rat}{U:Rat->Prop}{c:List ZX}
theorem adB{a b:ZX}(na:Nf a)(nb:Nf b)(hd:dv b a){h l:Nat}(hH:∀d∈a.l,d.natAbs<=2^h)(hN:ZX.N a<=n)(hn:n<=2^l):∀c∈b.l,c.natAbs<=2^(h+n*(2*l+3)):=by obtain⟨w,_,e⟩:=na.quo nb hd;exact Vp na.ne e hH hN hn
theorem F4{f:ZX}(nf:Nf f)(bz:BZ z n f):Ab (gp f.l) (2^(z+1)):=by
 have f0:=te nf.ne;have h1:=xy f.c f0;have hl:=cZ f.c (length_pos_iff.2 f0);have hL:(1:Rat)<=(((lead f.l).natAbs:Int):Rat):=ep aa;have h2:=Rat.div_mul_cancel (a:=((kG f.l (f.l.length-1):Int):Rat)) (b:=(((lead f.l).natAbs:Int):Rat)) aG;have h3:(1:Rat)<=gp f.l:=(l9 f.c f0 (t:=gp f.l) (.inr Rat.le_refl)).2;have h4:((kG f.l (f.l.length-1):Int):Rat)<=2^z:=by have h5:=iu (b:=2) ar (kG f.l (f.l.length-1));have h6:=Nat.pow_le_pow_right (show 0<2 by decide) (uz bz (f.l.length-1));exact(DY (s:=z) aa).2
 have h7:=pE z;rw [Rat.pow_succ];generalize (2:Rat)^z=T,((kG f.l (f.l.length-1):Int):Rat)=m at *;have hw:m/(((lead f.l).natAbs:Int):Rat)<=T:=by refine Rat.not_lt.1 fun h=>?_;have h8:=Rat.mul_le_mul_of_nonneg_left hL (show 0<=m/(((lead f.l).natAbs:Int):Rat)by grind);grind
 exact⟨aG,aG⟩
section
variable {f:ZX} {v:Rat->Nat} {lo hi:Rat} (nf:Nf f) (A:j7 f v lo hi)
include nf A
theorem F5:(fS v lo hi t -> -gp f.l<t)∧(¬fS v lo hi t->t<gp f.l):=by
 have f0:=te nf.ne;have adC:∀ {a b:Rat},a<b->b <= -gp f.l->v a=v b:=fun fm hb=>A.S.bg ⟨1,ar,fun x _ h2=>(l9 f.c f0 (.inl aG)).1⟩ fm;have adD:∀ {a b:Rat},a<b->gp f.l<=a->v a=v b:=fun fm hb=>A.S.bg ⟨1,ar,fun x h1 _=>(l9 f.c f0 (.inr aG)).1⟩ fm;have pt:e lo f=0->¬jM (gp f.l) lo:=fun h0 hb=>by have h1:=(l9 f.c f0 hb).1;rw [show qv lo f.l=e lo f from rfl,h0]at h1;rcases h1 with h1 | h1<;>exact absurd h1 ar
 constructor
 ·refine fun h=>Rat.not_le.1 fun ht=>?_
  rcases A.k with ⟨h1,h2⟩ | ⟨h1,h2⟩
  ·refine pt h2 (.inl ?_)
   rcases h with h | ⟨h,h3⟩
   ·grind
   ·grind
  ·rcases h with h | ⟨h,h3⟩
   ·have:=adC h1 aG;omega
   ·have:=adC h ht;omega
 ·refine fun h=>Rat.not_le.1 fun ht=>?_;have h0:t<hi:=Rat.not_le.1 fun h1=>h (.inl h1)
  rcases A.k with ⟨h1,h2⟩ | ⟨h1,h2⟩
  ·exact pt h2 (.inr aG)
  ·by_cases h3:t<=lo
   ·have:=adD h1 aG;omega
   ·have h4:v lo<=v t:=Nat.not_lt.1 fun h4=>h (.inr ⟨aG,h4⟩);have:=adD h0 ht;omega
theorem WH:2<=ZX.N f:=Nat.not_lt.1 fun h=>by
 have:=ZX.ax.1 nf.ne;obtain⟨c,hc,rfl⟩:=ZX.j1 (x:=f) aa;have hcq:(c:Rat)≠0:=fun h0=>hc (Rat.intCast_eq_zero_iff.1 h0)
 rcases A.k with ⟨_,h2⟩ | ⟨h1,h2⟩
 ·rw [wN]at h2;exact hcq h2
 ·have:=A.S.const h1 (σ:=bU (c:Rat)) (.inr (by rw [wN])) (fun x _ _=>by rw [wN]);omega
end
theorem cR{f:ZX}(A:j7 f v lo hi):WG (fS v lo hi):=⟨fun _ _ h h'=>A.up h h',⟨lo-1,A.gk (.inl aG)⟩,⟨hi,dZ⟩⟩
def se(s r n m β:Nat):Nat:=6*(n+m)+(s+n*9)*m+r*n+(n+m)*(β+2)+2
theorem L9{f h:ZX}(S:lK f h g w)(nf:Nf f)(nh:Nf h)(ch:rS h (bQ h))(hA:∀c∈f.l,c.natAbs<=2^s)(hB:∀c∈h.l,c.natAbs<=2^r)(hn:ZX.N f<=n)(hm:ZX.N h<=m)(n8:n<=8)(m8:m<=8)
  {a b:Rat} (ha:Ab a (2^β)) (hb:Ab b (2^β)) (fm:a<b) (hd:(b-a)*2^se s r n m β<=1):vt (aH w) a=vt (aH w) b∨vt (aH h) a=vt (aH h) b:=by
 have n1:=S.N;have Sw:=rV S.nw.ne S.sw aa;have Sh:=rV nh.ne ch aa;refine OH Sw Sh S.wh (s:=s+n*9) (r:=r) (l:=4) (β:=β) (adB nf S.nw (by rw [S.eq];exact(dv.refl w).mul_right _) hA hn (show n<=2^3 by omega)) hB aa ha hb fm (BI hd ?_);unfold se sx;have h1:(s+n*9)*ZX.N h<=(s+n*9)*m:=Nat.mul_le_mul_left _ hm;have h2:r*ZX.N w<=r*n:=Nat.mul_le_mul_left _ aa;have h3:(ZX.N w+ZX.N h)*(β+2)<=(n+m)*(β+2):=Nat.mul_le_mul_right _ aa;omega
theorem aaH{f h:ZX}{q:Rat × Rat}(nf:Nf f)(nh:Nf h)(cf:rS f (bQ f))(ch:rS h (bQ h))(A:j7 f (vt (aH f)) p.1 p.2)(B:j7 h (vt (aH h)) q.1 q.2){K:Nat}(hA:∀c∈f.l,c.natAbs<=2^s)(hB:∀c∈h.l,c.natAbs<=2^r)(hn:ZX.N f<=n)(hm:ZX.N h<=m)(n8:n<=8)(m8:m<=8)
  (k1:se s r n m β<=K) (k2:se r s m n β<=K) (k3:lk s n 3 β<=K∨lk r m 3 β<=K) {S E:Rat} (hS:Ab S (2^β)) (hE:Ab E (2^β)) (a1:¬bk f p S) (a2:bk f p E) (b1:¬bk h q S) (b2:bk h q E) (hd:(E-S)*2^K<=1):∀x,bk f p x↔bk h q x:=by
 have yR:=(cR A).lt a1 a2;obtain⟨w1,S1⟩:=j9 (h:=h) nf cf;obtain⟨w2,S2⟩:=j9 (h:=f) nh ch;rw [<-pv]at S2;have n1:=S1.N;have n2:=S2.N;have hg:=rV S1.ng.ne S1.sg aa;have wK:=rV S1.nw.ne S1.sw aa;have ND:=rV S2.nw.ne S2.sw aa;have o1:=iW A a1 a2 yR;have o2:=iW B b1 b2 yR;have c1:=S1.BP A.S hg wK (Rat.le_of_lt yR);have c2:=S2.BP B.S hg ND (Rat.le_of_lt yR);have e1:=(L9 S1 nf nh ch hA hB hn hm n8 m8 hS hE yR (BI hd k1)).resolve_right aa;have e2:=(L9 S2 nh nf cf hB hA hm hn m8 n8 hS hE yR (BI hd k2)).resolve_right aa;have o7:∀ {x:ZX} {s n:Nat},pF x (vt (aH x))->(∀c∈x.l,c.natAbs<=2^s)->ZX.N x<=n->n<=8->lk s n 3 β<=K->vt (aH x) S<=vt (aH x) E+1:=fun {x s n} hx hA hN h8 hk=>by obtain⟨L,G,e⟩:=hx.g;obtain⟨g1,_⟩:=sU G (s:=s) (n:=n) (l:=3) (β:=β) hx.ne hA hN aa hx.DZ (δ:=E-S) (BI hd hk);have:=g1.turns S E hS hE yR Rat.le_refl;rw [e];rcases FT x S E with h5 | h5<;>omega
 have m0:=hg.bI (Rat.le_of_lt yR)
 have hv:vt (aH f) S<=vt (aH f) E+1∧vt (aH h) S<=vt (aH h) E+1:=by
  rcases k3 with k3 | k3
  ·have:=o7 A.S hA hn n8 k3;omega
  ·have:=o7 B.S hB hm m8 k3;omega
 exact wm A B S1 S2 hg wK ND yR a1 a2 b1 b2 hv.1 hv.2 aa
theorem D5(n2:2<=n)(m2:2<=m)(n8:n<=8)(m8:m<=8)(hs:z<=s)(hr:z<=r):2*se s r n m (z+2)+2*(s+r)+9<=64+4*(n+m)*(s+r+(n+m)+8):=by
 have e1:4*(n+m)*(s+r+(n+m)+8)=4*(n*s)+4*(n*r)+4*(m*s)+4*(m*r)+4*(n*n)+8*(n*m)+4*(m*m)+32*n+32*m:=aG;have e2:se s r n m (z+2)=6*(n+m)+m*s+9*(n*m)+n*r+n*z+m*z+4*n+4*m+2:=by unfold se;grind
 have h1:n*z<=n*s:=Nat.mul_le_mul_left _ hs;have h2:m*z<=m*r:=Nat.mul_le_mul_left _ hr;have h3:n*m<=8*m:=Nat.mul_le_mul_right _ n8
 have h4:2*(n*m)<=n*n+m*m:=by
  rcases Nat.le_total n m with h | h
  ·obtain⟨d,rfl⟩:=Nat.exists_eq_add_of_le h;grind
  ·obtain⟨d,rfl⟩:=Nat.exists_eq_add_of_le h;grind
 have h5:2*s<=n*s:=Nat.mul_le_mul_right _ n2;have h6:2*r<=m*r:=Nat.mul_le_mul_right _ m2;omega
theorem lk3(s n:Nat):lk s n 3 (s+2)=5*(n*s)+30*n+s+6:=by unfold lk sk;grind
theorem D6(n2:2<=n)(m2:2<=m)(n8:n<=8)(hsr:s<=r)(hm:3<=m∨n<=2):2*lk s n 3 (s+2)+2*(s+r)+9<=64+4*(n+m)*(s+r+(n+m)+8):=by
 have e1:4*(n+m)*(s+r+(n+m)+8)=4*(n*s)+4*(n*r)+4*(m*s)+4*(m*r)+4*(n*n)+8*(n*m)+4*(m*m)+32*n+32*m:=aG;obtain⟨d,rfl⟩:=Nat.exists_eq_add_of_le hsr;rw [e1,lk3,Nat.mul_add n,Nat.mul_add m];have h1:n*s<=8*s:=Nat.mul_le_mul_right _ n8;have h5:2*s<=m*s:=Nat.mul_le_mul_right _ m2;have h6:2*d<=m*d:=Nat.mul_le_mul_right _ m2;have h7:2*n<=n*n:=Nat.mul_le_mul_right _ n2;have h8:2*n<=n*m:=by rw [Nat.mul_comm n];exact Nat.mul_le_mul_right _ m2
 rcases hm with hm | hm
 ·have h9:3*s<=m*s:=Nat.mul_le_mul_right _ hm;have h10:3*n<=n*m:=by rw [Nat.mul_comm n];exact Nat.mul_le_mul_right _ hm
  omega
 ·have h9:n*s<=2*s:=Nat.mul_le_mul_right _ hm;omega
theorem D7(n2:2<=n)(n8:n<=8)(hsr:s<=r)(hm:m=2):2*lk r m 3 (s+2)+2*(s+r)+9<=64+4*(n+m)*(s+r+(n+m)+8):=by
 subst hm;have e1:4*(n+2)*(s+r+(n+2)+8)=4*(n*s)+4*(n*r)+8*s+8*r+4*(n*n)+48*n+80:=aG;have e2:lk r 2 3 (s+2)=5*r+6*s+66:=by unfold lk sk;omega
 have h5:2*s<=n*s:=Nat.mul_le_mul_right _ n2;have h6:2*r<=n*r:=Nat.mul_le_mul_right _ n2;have h7:2*n<=n*n:=Nat.mul_le_mul_right _ n2;omega
theorem WI(n2:2<=n)(m1:1<=m)(n8:n<=8)(m8:m<=8):se s (r+m*9) n m (s+1)+s+2<=64+4*(n+m)*(s+r+(n+m)+8):=by
 have e1:4*(n+m)*(s+r+(n+m)+8)=4*(n*s)+4*(n*r)+4*(m*s)+4*(m*r)+4*(n*n)+8*(n*m)+4*(m*m)+32*n+32*m:=aG;have e2:se s (r+m*9) n m (s+1)=6*(n+m)+m*s+18*(n*m)+n*r+n*s+m*s+3*n+3*m+2:=by unfold se;grind
 have h3:n*m<=8*m:=Nat.mul_le_mul_right _ n8
 have h4:2*(n*m)<=n*n+m*m:=by
  rcases Nat.le_total n m with h | h
  ·obtain⟨d,rfl⟩:=Nat.exists_eq_add_of_le h;grind
  ·obtain⟨d,rfl⟩:=Nat.exists_eq_add_of_le h;grind
 have h5:2*s<=n*s:=Nat.mul_le_mul_right _ n2;omega
theorem OM(q:ZX)(x0:Rat)(hε:0<ε):∃r:Rat,0<r ∧ ∀x,x0-r<=x->x<=x0+r->Ab (e x q-e x0 q) ε:=by
 obtain⟨B,hB,ha,hb⟩:=iU (x0-1) (x0+1);obtain⟨Q,hQ,hl⟩:=lip q B hB;have e1:ε/Q*Q=ε:=Rat.div_mul_cancel (Rat.ne_of_gt hQ);obtain⟨r,hr,h1,h2⟩:=min2 (show (0:Rat)<1 by decide) ((Rat.lt_div_iff hQ).2 (show 0*Q<ε by grind));have hrQ:r*Q<=ε:=by have:=Rat.mul_le_mul_of_nonneg_right h2 (Rat.le_of_lt hQ);grind
 have n7:Ab x0 B:=bR ha hb aG aG;refine⟨r,hr,fun x h3 h4=>?_⟩;have hx:Ab x B:=bR ha hb aG aG
 by_cases h:x0<=x
 ·have h5:=hl x0 x n7 hx h;refine h5.mono ?_;have:=Rat.mul_le_mul_of_nonneg_right (show x-x0<=r by grind) (Rat.le_of_lt hQ);grind
 ·have h5:=(hl x x0 hx n7 aG).mono (show (x0-x)*Q<=ε by have:=Rat.mul_le_mul_of_nonneg_right (show x0-x<=r by grind) (Rat.le_of_lt hQ);grind);obtain⟨p1,p2⟩:=h5;exact⟨aG,aG⟩
theorem ag4{x y:Rat}(hε:0<ε)(h:jM (ε+ε) x)(pR:Ab (y-x) ε):bU y=bU x∧jM ε y:=by
 obtain⟨p1,p2⟩:=pR
 rcases h with h | h
 ·exact⟨by rw [fY (show x<0 by grind),fY aG], .inl aG⟩
 ·exact⟨by rw [eE (show 0<x by grind),eE aG], .inr aG⟩
theorem BS{x0:Rat}(hU:∀t,U t↔x0<=t)(q:ZX):Ju U q (bU (e x0 q)):=by
 have lo:∀ {r:Rat},0<r->¬U (x0-r):=fun hr h=>by have:=(hU _).1 h;grind
 have hi:∀ {r:Rat},0<r->U (x0+r):=fun hr=>(hU _).2 aG
 by_cases h0:e x0 q=0
 ·refine .inl ⟨by rw [h0,jd],fun ε hε=>?_⟩;obtain⟨r,hr,h⟩:=OM q x0 hε;refine⟨x0-r,x0+r,lo hr,hi hr,fun x h1 h2=>?_⟩;have:=h x h1 h2;rwa [h0,show e x q-0=e x q by grind]at this
 ·have hs:bU (e x0 q)=1∨bU (e x0 q) = -1:=by
   rcases cP (e x0 q)with ⟨_,h⟩ | ⟨h,_⟩ | ⟨_,h⟩
   ·exact .inr h
   ·exact absurd h h0
   ·exact .inl h
  obtain⟨ε,hε,hb⟩:∃ε:Rat,0<ε∧jM (ε+ε) (e x0 q):=by
   by_cases h:0<=e x0 q
   ·exact⟨e x0 q/2,aG, .inr aG⟩
   ·exact⟨-(e x0 q)/2,aG, .inl aG⟩
  obtain⟨r,hr,h⟩:=OM q x0 hε;exact .inr ⟨hs,ε,x0-r,x0+r,hε,lo hr,hi hr,fun x h1 h2=>ag4 hε hb (h x (Rat.le_of_lt h1) h2)⟩
theorem anY{r:ZX}(hr:od r)(q0:q≠0)(h:dv r q):dv r (sq q):=by
 obtain⟨nf,hf⟩:=j5 q0;have p1:r^1=r:=by rw [pow_succ',dX];grind
 have h1:=(ja hr q0 (k:=1)).2 (by rw [p1];exact h);have h2:=(ja hr nf.ne (k:=1)).1 (by rw [hf r hr];omega);rwa [p1]at h2
theorem rS.anZ(q0:q≠0)(h:rS w (sq q)):rS w q:=fun d h1 h2=>Nat.not_lt.1 fun hd=>by obtain⟨r,hr,hrd⟩:=mK _ d (Nat.le_refl _) aa;have:=h r (hrd.trans h1) (anY hr q0 (hrd.trans h2));have:=hr.Z5;omega
theorem WJ{f:ZX}(nf:Nf f)(hf:sq f=f)(q0:q≠0):gz f (sq q)=gz q f:=by obtain⟨nq,hq⟩:=j5 q0;refine Nf.rO (yj (.inl nf.ne)) (yj (.inl q0)) fun p hp=>?_;rw [(ek f (sq q)).mu nf.ne nq.ne hp,(ek q f).mu q0 nf.ne hp,hq p hp];have:=(j5 nf.ne).2 p hp;rw [hf]at this;omega
section
variable {f h g w:ZX} {v γ φ:Rat->Nat} {lo hi:Rat} (A:j7 f v lo hi) (S:lK f h g w) (Sg:pF g γ) (Sw:pF w φ)
include A S Sg Sw
theorem an0(bZ:lo<hi)(hγ:γ hi<γ lo):L8 (fS v lo hi) g:=by
 have hv:v lo=v hi+1:=by
  rcases A.k with ⟨h,_⟩ | ⟨_,h⟩
  ·rw [h]at bZ;exact absurd bZ Rat.lt_irrefl
  ·exact h
 refine IZ (cR A) Sg (A.gk (.inr ⟨rfl,bZ⟩)) dZ fun s t h1 h2 h3 h4=>?_;have g9:=(cR A).lt h3 h4;have c0:=S.BP A.S Sg Sw (Rat.le_of_lt bZ);have c1:=S.BP A.S Sg Sw (Rat.le_of_lt g9);have o:=iW A h3 h4 g9;have m1:=Sw.bI h1;have m2:=Sw.bI (Rat.le_of_lt g9);have m3:=Sw.bI h2;have m4:=Sg.bI h1;have m5:=Sg.bI (Rat.le_of_lt g9);have m6:=Sg.bI h2;omega
theorem atz(bZ:lo<hi)(hγ:γ lo=γ hi):L8 (fS v lo hi) w:=by refine IZ (cR A) Sw (A.gk (.inr ⟨rfl,bZ⟩)) dZ fun s t h1 h2 h3 h4=>?_;have g9:=(cR A).lt h3 h4;have c1:=S.BP A.S Sg Sw (Rat.le_of_lt g9);have o:=iW A h3 h4 g9;have m4:=Sg.bI h1;have m5:=Sg.bI (Rat.le_of_lt g9);have m6:=Sg.bI h2;omega
theorem Ma(bZ:lo<hi)(hγ:γ lo=γ hi)(q0:q≠0)(hh:h=sq q)(hN:ZX.N (sq q)<=20)(Sq:pF (sq q) (vt (aH (sq q))))(hη:vt (aH (sq q)) lo=vt (aH (sq q)) hi):Ju (fS v lo hi) q (bU (e hi q)):=by
 obtain⟨nf,hf⟩:=j5 q0;have hw:rS w q:=rS.anZ q0 (hh▸S.wh);have k:=F2 nf Sq.DZ Sq hN bZ hη _ q (Nat.le_refl _) q0 (fun r hr=>by rw [hf r hr];exact Nat.le_refl _);obtain⟨B,hB,ha,hb⟩:=iU lo hi;obtain⟨ε,hε,hs⟩:=anD S.nw.ne q0 hw B;obtain⟨s,t,h1,h2,h3⟩:=atz A S Sg Sw bZ hγ (ε/2) aG;obtain⟨a,b,k1,k2,k3,k4,k5,k6,k7⟩:=(cR A).inter h1 h2 (A.gk (.inr ⟨rfl,bZ⟩)) (dZ (v:=v) (lo:=lo) (hi:=hi))
 have hs3:bU (e hi q)=1∨bU (e hi q) = -1:=by
  have h4:=(k hi bZ Rat.le_refl).1
  rcases cP (e hi q)with ⟨_,h⟩ | ⟨h,_⟩ | ⟨_,h⟩
  ·exact .inr h
  ·exact absurd h h4
  ·exact .inl h
 refine .inr ⟨hs3,ε,a,b,hε,k1,k2,fun x hx hy=>⟨(k x aG aG).2,?_⟩⟩;refine(hs x (bR ha hb aG aG)).resolve_left fun h4=>?_;obtain⟨p1,p2⟩:=h3 x aG aG;rcases h4 with h4 | h4<;>grind
end
theorem aaI{f:ZX}{γ φ:Rat->Nat}(A:j7 f (vt (aH f)) p.1 p.2)(S:lK f (sq q) g w)(Sg:pF g γ)(Sw:pF w φ)(Sq:pF (sq q) (vt (aH (sq q))))(bZ:p.1<p.2)(hγ:γ p.1=γ p.2):∃a b,p.1<=a∧a<b∧b<=p.2∧j7 f (vt (aH f)) a b∧fS (vt (aH f)) a b=bk f p∧vt (aH (sq q)) a=vt (aH (sq q)) b:=by
 obtain⟨B,hB,ha,hb⟩:=iU p.1 p.2;obtain⟨δ,hδ,wZ⟩:=FZ Sw Sq S.wh B;obtain⟨a,b,g1,g2,g3,g4,g5,g6⟩:=zH (U:=bk f p) hδ bZ (A.gk (.inr ⟨rfl,bZ⟩)) dZ;have o:=iW A g5 g6 g2;have c1:=S.BP A.S Sg Sw (Rat.le_of_lt g2);have m1:=Sg.bI g1;have m2:=Sg.bI g3;have m3:=Sg.bI (Rat.le_of_lt g2);have hη:=(wZ a b (bR ha hb g1 aG) (bR ha hb aG g3) g2 g4).resolve_left aa;have v1:=A.S.bI g1;have v2:=A.S.bI g3
 have hv:vt (aH f) p.1=vt (aH f) p.2+1:=by
  rcases A.k with ⟨h,_⟩ | ⟨_,h⟩
  ·grind
  ·exact h
 refine⟨a,b,g1,g2,g3,⟨A.S, .inr ⟨g2,aa⟩⟩,funext fun t=>propext ⟨fun h=>?_,fun h=>?_⟩,hη⟩
 ·rcases h with h | ⟨h,h3⟩
  ·exact A.up g6 h
  ·by_cases h4:p.1<t
   ·exact .inr ⟨h4,aa⟩
   ·exact absurd (A.S.bI (show t<=p.1 by grind)) aa
 ·by_cases h4:b<=t
  ·exact .inl h4
  ·refine .inr ⟨(cR A).lt g5 h,?_⟩
   rcases h with h | ⟨h,h3⟩
   ·have:=A.S.bI h;omega
   ·omega
theorem ON(q0:q≠0):rS (sq q) (bQ (sq q)):=fun d h1 h2=>by have h3:=(ek (sq q) (bQ (sq q))).least h1 h2;rw [Ox q0]at h3;have:=h3.j2 ZX.mJ;rwa [ZX.tL]at this
theorem OO{f:ZX}(nf:Nf f)(hf:sq f=f)(cf:rS f (bQ f))(hN:ZX.N f<=20)(A:j7 f (vt (aH f)) p.1 p.2)(hq:ZX.N q<=20)(q0:q≠0)(bZ:p.1<p.2):∃σ,Ju (bk f p) q σ∧(σ=0↔vt (aH (gz q f)) p.2<vt (aH (gz q f)) p.1):=by
 obtain⟨nq,hmu⟩:=j5 q0;have hNq:ZX.N (sq q)<=20:=Nat.le_trans ((pD q0).j2 q0) hq;have Sq:=rV nq.ne (ON q0) hNq;obtain⟨w,S⟩:=j9 (h:=sq q) nf cf;rw [WJ nf hf q0]at S;have n1:=S.N;have Sg:=rV S.ng.ne S.sg aa;have Sw:=rV S.nw.ne S.sw aa;have m:=Sg.bI (Rat.le_of_lt bZ)
 by_cases hγ:vt (aH (gz q f)) p.2<vt (aH (gz q f)) p.1
 ·exact⟨0, .inl ⟨rfl,(an0 A S Sg Sw bZ hγ).dv (cR A) (ek q f).l⟩,⟨fun _=>hγ,fun _=>rfl⟩⟩
 ·obtain⟨a,b,g1,g2,g3,A2,e1,hη⟩:=aaI A S Sg Sw Sq bZ aa;have m1:=Sg.bI g1;have m2:=Sg.bI g3;have m3:=Sg.bI (Rat.le_of_lt g2);have k:=Ma A2 S Sg Sw g2 aa q0 rfl hNq Sq hη;rw [e1]at k;refine⟨_,k,⟨fun h=>?_,fun h=>absurd h hγ⟩⟩;exact absurd (eo.1 h) (F2 nq Sq.DZ Sq hNq g2 hη _ q (Nat.le_refl _) q0 (fun r hr=>by rw [hmu r hr];exact Nat.le_refl _) b g2 Rat.le_refl).1
theorem D8(h:n<2^k):0<=bl (aI LL n)∧bl (aI LL n)<=k∧n<2^(bl (aI LL n)).toNat:=by
 have hV:=jT fV n;have hL:=fy fV n;have hc:=jz fV n;generalize aI LL n=l at *;unfold bl
 by_cases h0:l = []
 ·subst h0;simp [V]at hV;rw [if_pos rfl];exact⟨aa,aa,by simp;omega⟩
 ·rw [if_neg h0];have hl:=length_pos_iff.2 h0;obtain⟨j,hj⟩:∃j,l.length=j+1:=⟨l.length-1,aa⟩
  rw [hj,show j+1-1=j by omega];have e:=bt (l:=l) (i:=j) aa;rw [take_of_length_le aa]at e;have ht:=hL.nth (i:=j) aa;have hVt:=nZ (b:=(LL:Int)) ar (hL.take j)
  have KH:V (LL:Int) l=V (LL:Int) (l.take j)+(LL:Int)^j*nth l j:=by
   conv=>lhs;rw [e]
   rw [dK,show(l.take j).length=j by rw [length_take];omega];simp [V]
  have Pf:=ku (b:=(LL:Int)) ar hL hc h0;rw [hj,show j+1-1=j by omega]at Pf;rw [show(l.take j).length=j by rw [length_take];omega]at hVt;have eP:((LL:Int)^j)=((2^(32*j):Nat):Int):=by rw [Nat.pow_mul,Int.natCast_pow]
  rw [eP]at hVt KH Pf;have X3:=nC (n:=(nth l j).toNat) (k:=nb (nth l j).toNat);have hnk:=nC (n:=(nth l j).toNat) (k:=k-32*j);have hT:=X3.1 (Nat.le_refl _);have e3:(32*(((j+1:Nat):Int)-1)+((nb (nth l j).toNat:Nat):Int)).toNat=32*j+nb (nth l j).toNat:=aa;have hP:=Nat.two_pow_pos (32*j);have hkj:32*j<k:=Nat.not_le.1 fun hh=>by have:=Nat.pow_le_pow_right (show 0<2 by decide) hh;omega
  have e4:2^(32*j)*2^(k-32*j)=2^k:=by rw [<-Nat.pow_add,show 32*j+(k-32*j)=k by omega]
  have hV0:0<=V (LL:Int) (l.take j):=bH ar (hL.take j)
  refine⟨aa,?_,?_⟩
  ·have:(nth l j).toNat<2^(k-32*j):=Nat.not_le.1 fun hh=>by have h2:=Nat.mul_le_mul_left (2^(32*j)) hh;have h3:((2^(32*j):Nat):Int)*nth l j=((2^(32*j)*(nth l j).toNat:Nat):Int):=(by rw [Int.natCast_mul];congr 1;omega);omega
   have:=hnk.2 this;omega
  ·rw [e3,Nat.pow_add];have h2:2^(32*j)*((nth l j).toNat+1)<=2^(32*j)*2^nb (nth l j).toNat:=Nat.mul_le_mul_left _ hT;have h3:((2^(32*j):Nat):Int)*nth l j=((2^(32*j)*(nth l j).toNat:Nat):Int):=(by rw [Int.natCast_mul];congr 1;omega);rw [Nat.mul_add,Nat.mul_one]at h2;omega
theorem rZ{x:Int}(h:x.natAbs<2^k)(hk:k<=1000000000):aj 257 [us (aI LL x.natAbs)] (ae (bl (aI LL x.natAbs))):=by have h1:=Hw (aI LL x.natAbs) ⟨fy fV _,by have h2:x.natAbs<LL^k:=Nat.lt_of_lt_of_le h (Nat.pow_le_pow_left ar k);have:=yX fV h2;omega⟩;rwa [jz fV]at h1
def zs(f:ZX):Nat:=(Gz f.l f.l.length).toNat
theorem wt{x:List Int}{k:Nat}(h:∀c∈x,c.natAbs<2^k):∀i,i<=x.length->0<=Gz x i∧Gz x i<=k ∧ ∀j,j<i->(nth x j).natAbs<2^(Gz x i).toNat
 | 0,_=>⟨Int.le_refl _,by show(0:Int)<=k;omega,fun j hj=>absurd hj (Nat.not_lt_zero _)⟩
 | i+1,hi=>by
  obtain⟨h1,h2,h3⟩:=wt h i aa;obtain⟨g1,g2,g3⟩:=D8 (h (nth x i) (bo aa));rw [Gz];have key:∀ {a:Nat} {y z:Int},y<=z->a<2^y.toNat->a<2^z.toNat:=fun hyz ha=>Nat.lt_of_lt_of_le ha (Nat.pow_le_pow_right ar aa)
  split
  ·refine⟨g1,g2,fun j hj=>?_⟩
   rcases Nat.lt_or_ge j i with hh | hh
   ·exact key aa (h3 j hh)
   ·rw [show j=i by omega];exact g3
  ·refine⟨h1,h2,fun j hj=>?_⟩
   rcases Nat.lt_or_ge j i with hh | hh
   ·exact h3 j hh
   ·rw [show j=i by omega];exact key aa g3
section
variable {s n:Nat} {f:ZX} (b:BZ s n f)
include b
theorem BZ.lt:∀c∈f.l,c.natAbs<2^s:=fun c hc=>Nat.lt_of_lt_of_le (iu ar c) (Nat.pow_le_pow_right ar (b.sz c hc))
theorem yx:zs f<=s:=by have:=(wt b.lt _ (Nat.le_refl _)).2.1;unfold zs;omega
theorem an1:∀c∈f.l,c.natAbs<2^zs f:=fun c hc=>by obtain⟨i,hi,rfl⟩:=getElem_of_mem hc;rw [<-bJ hi];exact(wt b.lt _ (Nat.le_refl _)).2.2 i hi
theorem I0:BZ (zs f) n f:=⟨b.N,fun c hc=>dp ar (an1 b c hc)⟩
theorem I1(hs:s<=1000000000)(hn:n<=50):aj 264 [Po f.l] (ae ((zs f:Nat):Int)):=by
 have h1:=wt b.lt _ (Nat.le_refl _);have:=RF (x:=f.l) (by have:=b.N;show ZX.N f<_;omega) fun i hi=>by have h2:=b.lt _ (bo hi);obtain⟨g1,g2,_⟩:=D8 h2;exact⟨rZ h2 hs,g1,aa⟩
 rw [show((zs f:Nat):Int)=Gz f.l f.l.length by unfold zs;omega];exact this
end
theorem D9{k':Nat}{f h:ZX}(bf:BZ s k f)(bh:BZ s' k' h)(hs:s<=1000000000)(wF:s'<=1000000000)(hk:k<=50)(wE:k'<=50){an ad bn bd cn cd dn dd:Int}(h1:an.natAbs<2^u)(h2:bn.natAbs<2^u)(h3:cn.natAbs<2^u)(h4:dn.natAbs<2^u)(hu:u<=1000000000) :
  ∃N:Nat,aj 252 [.ag (G9 f.l an ad bn bd), .ag (G9 h.l cn cd dn dd)] (ae N)∧64+4*(ZX.N f+ZX.N h)*(zs f+zs h+(ZX.N f+ZX.N h)+8)<=N∧N<=64+8*u+4*(ZX.N f+ZX.N h)*(zs f+zs h+(ZX.N f+ZX.N h)+8):=by
 obtain⟨a1,a2,_⟩:=D8 h1;obtain⟨b1,b2,_⟩:=D8 h2;obtain⟨c1,c2,_⟩:=D8 h3;obtain⟨d1,d2,_⟩:=D8 h4;have z1:=yx bf;have z2:=yx bh;have n1:=bf.N;have n2:=bh.N;have R:=L5 (ad:=ad) (bd:=bd) (cd:=cd) (dd:=dd) (show f.l.length<=50 by show ZX.N f<=_;omega) (show h.l.length<=50 by show ZX.N h<=_;omega) (rZ h1 hu) (rZ h2 hu) (rZ h3 hu) (rZ h4 hu) ⟨a1,aa⟩ ⟨b1,aa⟩ ⟨c1,aa⟩ ⟨d1,aa⟩ (I1 bf hs hk) (I1 bh wF wE) ⟨aa,aa⟩ ⟨aa,aa⟩;have e1:4*((f.l.length:Int)+h.l.length)*((zs f:Int)+zs h+((f.l.length:Int)+h.l.length)+8)=((4*(ZX.N f+ZX.N h)*(zs f+zs h+(ZX.N f+ZX.N h)+8):Nat):Int):=by show 4*((ZX.N f:Int)+(ZX.N h:Nat))*_=_;simp only [Int.natCast_mul,Int.natCast_add];rfl
 rw [e1]at R;generalize 4*(ZX.N f+ZX.N h)*(zs f+zs h+(ZX.N f+ZX.N h)+8)=M,bl (aI LL an.natAbs)=x1,bl (aI LL bn.natAbs)=x2,bl (aI LL cn.natAbs)=x3,bl (aI LL dn.natAbs)=x4 at *;refine⟨64+2*(x1+x2+x3+x4).toNat+M,?_,aa,aa⟩;have e2:(((64+2*(x1+x2+x3+x4).toNat+M:Nat)):Int)=64+2*(x1+x2+x3+x4)+(M:Int):=aa;rw [e2];exact R
theorem js(P:Nat->Prop):∀N,∃J,J<=N∧(∀j,j<J->¬P j)∧(J<N->P J)
 | 0=>⟨0,Nat.le_refl _,fun j h=>absurd h (Nat.not_lt_zero _),fun h=>absurd h (Nat.lt_irrefl _)⟩
 | N+1=>by
  obtain⟨J,h1,h2,h3⟩:=js P N
  by_cases hJ:J<N
  ·exact⟨J,aa,h2,fun _=>h3 hJ⟩
  ·have:J=N:=(by omega);subst this
   by_cases hP:P J
   ·exact⟨J,aa,h2,fun _=>hP⟩
   ·exact⟨J+1,aa,fun j hj=>by
     rcases Nat.lt_or_ge j J with h | h
     ·exact h2 j h
     ·rw [show j=J by omega];exact hP,fun h=>by omega⟩
theorem jH{x:List Int}(q1:SQ u p.1)(q2:SQ u p.2)(hu:u<=1000000000):aj 193 [.ag (G9 x p.1.num p.1.den p.2.num p.2.den)] (.bool (decide (p.2<=p.1))):=by have z0:=cX q1.nL q1.dL q2.nL q2.dL aa (aX p.1) (aX p.2) ⟨q1.nL,q1.dL⟩ ⟨q2.nL,q2.dL⟩;have hp:=uC (x:=x) z0;have e:decide (0<=dc (p.1.num*(p.2.den:Int)) (p.2.num*(p.1.den:Int)))=decide (p.2<=p.1):=decide_eq_decide.2 (by have:=fF (p:=p.1) (q:=p.2);rw [<-Rat.not_lt,<-this];omega);rwa [e]at hp
theorem sV(q:SQ u t)(hu:u<=1000000000):aj 90 [RT t, .sl []] (RT t):=by obtain⟨l1,l2⟩:=q.LLt (show u<1099511627770 by omega);have:=vX l1 l2;rwa [aX]at this
theorem r9{f:ZX}(b:BZ s n f)(hs:s<=1000000000)(hn:n<=50)(q1:SQ u p.1)(q2:SQ u p.2)(hu:u<=1000000000):aj 192 [GA f p] (GA f p):=by have N1:=dW (x:=f.l) (b.pb aa aa);rw [f.c]at N1;exact RC N1 (sV q1 hu) (sV q2 hu)
theorem RG{x:List Int}{an ad bn bd:Int}(hq:aj 64 [Po []] (Po []))(hN:aj 192 [.ag (G9 x an ad bn bd)] (.ag (G9 x an ad bn bd))):aj 246 [Po [], .ag (G9 x an ad bn bd)] (ae 0):=by
 simp only [G9]at *;apply bL [(0,Po []),(1, .ag (G9 x an ad bn bd))] Tryz.func246;apply gr [0,3];apply eO hq hN
 (try (refine aM (of_decide_eq_true bX) ?_));(try simp (maxSteps:=4000000) (disch:=omega) [gw]);(repeat rw [if_pos bX]);(try simp (maxSteps:=4000000) (disch:=omega) [gw])
 (try (refine aM (of_decide_eq_true bX) ?_));(try simp (maxSteps:=4000000) (disch:=omega) [gw]);(repeat rw [if_pos bX]);(try simp (maxSteps:=4000000) (disch:=omega) [gw])
 apply c9 [0,3]
 apply cS [0,3,14]<;>intro h
 ·exact dS [4]
 ·simp at h
structure AN(s n u:Nat)(f:ZX)(p:Rat × Rat):Prop where
 I:kS s n f
 hs:s<=100000
 A:j7 f (vt (aH f)) p.1 p.2
 q1:SQ u p.1
 q2:SQ u p.2
 hu:u<=30000000
 n8:ZX.N f<=8
 b1:p.1<p.2->Ab p.1 (2^(zs f+1))
 b2:p.1<p.2->Ab p.2 (2^(zs f+1))
structure SgC(s' k:Nat)(f q:ZX):Prop where
 bq:BZ s' k q
 hs:s'<=100000
 hk:k<=31
 q8:ZX.N q<=8
 hG:aj 194 [.sl [[Po q.l],[Po f.l]]] (Po (gz q f).l)
 IG:2<=ZX.N (gz q f) -> ∃sg ng,kS sg ng (gz q f)∧sg<=1000000
 hC:q≠0 -> ∃sc nc,Ch sc nc (sq q)
 atA:q≠0->aj 69 [Po q.l] (.cW [CH (aH (sq q)),ae 0])
theorem AN.stop{N:Nat}{f:ZX}{r:Rat × Rat}(a:AN s n u f p)(bq:BZ s' k q)(m8:ZX.N q<=8)(q0:q≠0)(S:lK f (sq q) g w)(bZ:p.1<p.2)(hγ:vt (aH g) p.1=vt (aH g) p.2)(A':j7 f (vt (aH f)) r.1 r.2)(k3:p.1<=r.1)(k4:r.2<=p.2)(k5:(r.2-r.1)*2^N<=p.2-p.1)
  (ZQ:64+4*(ZX.N f+ZX.N q)*(zs f+zs q+(ZX.N f+ZX.N q)+8)<=N):r.1=r.2∨vt (aH (sq q)) r.1=vt (aH (sq q)) r.2:=by
 have I:=a.I;have n8:=a.n8;obtain⟨nq,_⟩:=j5 q0;have hNq:ZX.N (sq q)<=ZX.N q:=(pD q0).j2 q0;have n1:=S.N;have Sg:=rV S.ng.ne S.sg aa;have Sw:=rV S.nw.ne S.sw aa;refine Classical.byContradiction fun yQ=>?_;obtain⟨qQ,JR⟩:=not_or.1 yQ;have F6:r.1<r.2:=by have:=A'.le;grind
 have a1:=bR (a.b1 bZ) (a.b2 bZ) (x:=r.1) k3 aG;have a2:=bR (a.b1 bZ) (a.b2 bZ) (x:=r.2) aG k4
 have hvJ:vt (aH f) r.1=vt (aH f) r.2+1:=by
  rcases A'.k with ⟨h,_⟩ | ⟨_,h⟩
  ·exact absurd h qQ
  ·exact h
 have m1:=Sg.bI k3;have m2:=Sg.bI k4;have m3:=Sg.bI (Rat.le_of_lt F6);have cJ:=S.BP A'.S Sg Sw (Rat.le_of_lt F6);have fz:=I0 I.ch.bz;have qz:=(I0 bq).nf;have N2f:=WH I.nf a.A;have q1':=ZX.ax.1 q0;have atB:∀x∈(sq q).l,x.natAbs<=2^(zs q+ZX.N q*9):=adB (l:=3) (iM q0) nq (BE q0).2 (fun d hd=>Nat.le_of_lt (BZ.lt qz d hd)) (by rw [xp];exact Nat.le_refl _) aa;have Nb:=WI (s:=zs f) (r:=zs q) N2f (show 1<=ZX.N q by omega) n8 m8
 have hw:=L9 S I.nf nq (ON q0) (s:=zs f) (r:=zs q+ZX.N q*9) (n:=ZX.N f) (m:=ZX.N q) (β:=zs f+1) (fun d hd=>Nat.le_of_lt (BZ.lt fz d hd)) atB (Nat.le_refl _) hNq n8 m8 a1 a2 F6 ?_
 ·rcases hw with hw | hw
  ·omega
  ·exact JR hw
 ·have w0:p.2-p.1<=2^(zs f+2):=by obtain⟨x1,x2⟩:=a.b1 bZ;obtain⟨x3,x4⟩:=a.b2 bZ;rw [show zs f+2=zs f+1+1 by omega,Rat.pow_succ];grind
  have w1:=Rat.le_trans k5 w0;have hP:=eU (zs f+2);have w2:(r.2-r.1)*2^se (zs f) (zs q+ZX.N q*9) (ZX.N f) (ZX.N q) (zs f+1)*2^(zs f+2)<=1*2^(zs f+2):=by rw [Rat.one_mul,Rat.mul_assoc,<-og];refine Rat.le_trans (Rat.mul_le_mul_of_nonneg_left (BH ?_) aG) w1;omega
  exact Rat.le_of_mul_le_mul_right w2 hP
theorem AN.sg{s n u s' k:Nat}{f q:ZX}{p:Rat × Rat}(a:AN s n u f p)(c:SgC s' k f q):aj 246 [Po q.l,GA f p] (ae (OL (bk f p) q)):=by
 have I:=a.I;have A:=a.A;have hs:=a.hs;have hu:=a.hu;have hfn:=I.ch.hn;have wF:=c.hs;have hk:=c.hk;have n8:=a.n8;have m8:=c.q8;have N1:=r9 I.ch.bz aa aa a.q1 a.q2 aa;have Nq:=dW (x:=q.l) (c.bq.pb aa aa);rw [q.c]at Nq
 by_cases q0:q=0
 ·subst q0;rw [(show Ju (bk f p) 0 0 from .inl ⟨rfl,wq (cR A)⟩).eq (cR A)];exact RG Nq N1
 have hl:0<q.l.length:=by have:=ZX.ax.1 q0;exact Nat.pos_of_ne_zero fun h=>by(have:ZX.N q=q.l.length:=rfl);omega
 have AV:q.l.length<1000000:=by show ZX.N q<_;omega
 by_cases Ce:p.1=p.2
 ·have hS:=rY q c.bq aa aa a.q1 aa;have hz:=cX a.q1.nL a.q1.dL a.q1.nL a.q1.dL aa (aX p.1) (aX p.1) ⟨a.q1.nL,a.q1.dL⟩ ⟨a.q1.nL,a.q1.dL⟩;have e0:dc (p.1.num*(p.1.den:Int)) (p.1.num*(p.1.den:Int))=0:=j8.2 rfl;rw [e0]at hz;have Nf:=dW (x:=f.l) (I.ch.bz.pb aa aa);rw [f.c]at Nf;have:=Wy (q:=q.l) (x:=f.l) AV (fun h=>by omega) Nq Nf (sV a.q1 aa) hz hS;rw [(BS (gW Ce) q).eq (cR A)];rw [show GA f p = .ag (G9 f.l p.1.num p.1.den p.1.num p.1.den)by rw [show p=(p.1,p.1)from Prod.ext rfl Ce.symm];rfl];exact this
 have bZ:p.1<p.2:=by have:=A.le;grind
 obtain⟨nq,hmu⟩:=j5 q0;have hNq:ZX.N (sq q)<=ZX.N q:=(pD q0).j2 q0;have cq:=ON q0;have Sq:=rV nq.ne cq aa;obtain⟨w,S⟩:=j9 (h:=sq q) I.nf I.DZ;rw [WJ I.nf I.sq q0]at S;have n1:=S.N;have Sg:=rV S.ng.ne S.sg aa;have Sw:=rV S.nw.ne S.sw aa;have mγ:=Sg.bI (Rat.le_of_lt bZ);have mφ:=Sw.bI (Rat.le_of_lt bZ)
 have hv:vt (aH f) p.1=vt (aH f) p.2+1:=by
  rcases A.k with ⟨h,_⟩ | ⟨_,h⟩
  ·exact absurd h Ce
  ·exact h
 have c0:=S.BP A.S Sg Sw (Rat.le_of_lt bZ);have P0:=jH (x:=f.l) a.q1 a.q2 aa;rw [decide_eq_false (Rat.not_le.2 bZ)]at P0;have hD:aj 83 [Po (gz q f).l] (ae ((ZX.N (gz q f):Int)-1)):=j0 (gz q f).l (by show ZX.N (gz q f)<_;omega);have an2:2<=ZX.N (gz q f)->aj 195 [Po (gz q f).l,RT p.1,RT p.2] (.bool (decide (vt (aH (gz q f)) p.2<vt (aH (gz q f)) p.1))):=fun h2=>by obtain⟨sg,ng,IG,Ir⟩:=c.IG h2;exact OJ IG Ir bZ aa a.q1 a.q2 aa
 by_cases hz:vt (aH (gz q f)) p.2<vt (aH (gz q f)) p.1
 ·have h2:2<=ZX.N (gz q f):=Nat.not_lt.1 fun h2=>by obtain⟨d,hd,e⟩:=ZX.j1 (x:=gz q f) (by have:=ZX.ax.1 S.ng.ne;omega);rw [e]at hz Sg;have:=Sg.const bZ (σ:=bU (d:Rat)) (.inr (by rw [wN])) (fun x _ _=>by rw [wN]);omega
  have hH:=an2 h2;rw [decide_eq_true hz]at hH;have:=L6 hl AV Nq N1 P0 c.hG hD aa hH;rw [(show Ju (bk f p) q 0 from .inl ⟨rfl,(an0 A S Sg Sw bZ hz).dv (cR A) (ek q f).l⟩).eq (cR A)];exact this
 obtain⟨sc,nc,C⟩:=c.hC q0;obtain⟨cb,cl⟩:=C.all;obtain⟨D,Jt,uJ,g1,g2⟩:=yw a.q1 a.q2;have key:=BR A g1 g2;obtain⟨N,R,ZQ,CC⟩:=D9 (u:=u) (ad:=p.1.den) (bd:=p.2.den) (cn:=0) (cd:=0) (dn:=0) (dd:=0) I.ch.bz c.bq aa aa aa aa (Nat.lt_of_lt_of_le (iu (b:=2) ar p.1.num) (Nat.pow_le_pow_right ar a.q1.n2)) (Nat.lt_of_lt_of_le (iu (b:=2) ar p.2.num) (Nat.pow_le_pow_right ar a.q2.n2)) (Nat.two_pow_pos _) (Nat.two_pow_pos _) aa;have hzf:=yx I.ch.bz;have hzq:=yx c.bq;have hM:4*(ZX.N f+ZX.N q)*(zs f+zs q+(ZX.N f+ZX.N q)+8)<=4*16*(100000+100000+16+8):=Nat.mul_le_mul aa aa;obtain⟨J,hJ,hj,g9⟩:=js (fun j=>(gB f p j).1=(gB f p j).2∨vt (aH (sq q)) (gB f p j).1=vt (aH (sq q)) (gB f p j).2) N
 have mN:(gB f p J).1=(gB f p J).2∨vt (aH (sq q)) (gB f p J).1=vt (aH (sq q)) (gB f p J).2:=by
  by_cases hJN:J<N
  ·exact g9 hJN
  have hJE:J=N:=aa;obtain⟨k1,k2,k3,k4,k5,_⟩:=key J;exact a.stop c.bq m8 q0 S bZ aa k1 k3 k4 k5 (hJE▸ZQ)
 have sqJ:∀j,j<=N->SQ (3*u+N+2) (gB f p j).1∧SQ (3*u+N+2) (gB f p j).2∧SQ (3*u+N+2) (((gB f p j).1+(gB f p j).2)/2):=fun j hj=>by obtain⟨_,_,_,_,_,k6,k7⟩:=key j;exact⟨(k6.sq Jt uJ).mono aa,(k7.sq Jt uJ).mono aa,((k6.A3 k7).sq Jt uJ).mono aa⟩
 have hV:3*u+N+2<=1000000000:=aa;have btw:∀j,j<=N->aj 88 [CH (aH (sq q)),RT (gB f p j).1,RT (gB f p j).2] (ae ((vt (aH (sq q)) (gB f p j).1:Int)-vt (aH (sq q)) (gB f p j).2)):=fun j hj=>by obtain⟨s1,s2,_⟩:=sqJ j hj;have:=We cb C.hn cl s1 s2 hV;rwa [if_neg (Rat.not_lt.2 (key j).1.le)]at this
 obtain⟨sJ1,sJ2,_⟩:=sqJ J hJ
 have R1:=WC (gc:=zp) (C:=aH (sq q)) (an:=fun j=>(gB f p j).1.num) (ad:=fun j=>(gB f p j).1.den) (bn:=fun j=>(gB f p j).2.num) (bd:=fun j=>(gB f p j).2.den) (J:=J) (N:=N) (r:=bU (e (gB f p J).2 q)) hl AV Nq N1 P0 c.hG hD (fun h0=>by
   have hH:=an2 aa;rwa [decide_eq_false hz]at hH) (c.atA q0) R aa (fun j JP=>by
   obtain⟨s1,s2,s3⟩:=sqJ j aa;have wZ:=not_or.1 (hj j JP);have ag6:(gB f p j).1<(gB f p j).2:=(by have:=(key j).1.le;grind);have Pj:=jH (x:=f.l) s1 s2 hV;rw [decide_eq_false (Rat.not_le.2 ag6)]at Pj;refine⟨Pj,⟨_,btw j aa,?_⟩,BQ I aa (key j).1 s1 s2 s3 hV⟩;have:=wZ.2;simp only [beq_eq_false_iff_ne,ne_eq];omega) hJ (fun hJN=>by
   have Pj:=jH (x:=f.l) sJ1 sJ2 hV
   by_cases hp:(gB f p J).2<=(gB f p J).1
   ·rw [decide_eq_true hp]at Pj;exact .inl Pj
   ·rw [decide_eq_false hp]at Pj;refine .inr ⟨Pj,?_⟩;have h3:=btw J hJ;rw [mN.resolve_left aG,Int.sub_self]at h3;exact h3) (rY q c.bq aa aa sJ2 hV)
 have hU:OL (bk f p) q=bU (e (gB f p J).2 q):=by
  obtain⟨k1,k2,k3,k4,_⟩:=key J;have e1:bk f p=bk f (gB f p J):=funext fun t=>propext (k2 t).symm;rw [e1]
  by_cases hp:(gB f p J).1=(gB f p J).2
  ·rw [<-hp];exact(BS (gW hp) q).eq (cR k1)
  ·have F6:(gB f p J).1<(gB f p J).2:=(by have:=k1.le;grind);have m1:=Sg.bI k3;have m2:=Sg.bI k4;have m3:=Sg.bI (Rat.le_of_lt F6);exact(Ma k1 S Sg Sw F6 aa q0 rfl aa Sq (mN.resolve_left hp)).eq (cR k1)
 rw [hU];exact R1
theorem I2{y x:List Int}{an ad bn bd:Int}(hz:aj 116 [PI y, .ag (eV x c an ad bn bd)] (.bool true)):aj 202 [PI y, .ag (eV x c an ad bn bd)] (ae 0):=by
 simp only [eV]at *;apply bL [(0,PI y),(1, .ag (eV x c an ad bn bd))] Tryz.func202;apply fB [0,3]
 apply fH hz [0,3,8]<;>intro h
 ·exact dS [4]
 ·simp at h
theorem RH{y x:List Int}{an ad bn bd r:Int}{pt:Bool}(hy:y.length<1000000)(hz:aj 116 [PI y, .ag (eV x c an ad bn bd)] (.bool false))(hp:aj 75 [.ag (eV x c an ad bn bd)] (.bool pt))(h1:pt=true∨y.length=1)(hs:aj 77 [PI y,R2 an ad] (ae r)) :
  aj 202 [PI y, .ag (eV x c an ad bn bd)] (ae r):=by
 simp only [eV]at *;apply bL [(0,PI y),(1, .ag (eV x c an ad bn bd))] Tryz.func202;apply fB [0,3]
 apply fH hz [0,3,8]<;>intro h
 ·simp at h
 apply (jm)
 refine W.dx (fun σ=>∃(v3:Nat),aQ σ [(0,PI y),(3, .ptr 3 v3 0 0),(15, .bool true)] fun rows clk=>rows 3=some ⟨v3,49,10,[eV x c an ad bn bd]⟩) (fun K hK=>?_) ?_
 ·cases pt with
  | true =>
   apply my hp;exact hK _ _ (ak _ [0,3,15]) ⟨_,_,_,rfl,av⟩
  | false =>
   have h1:y.length=1:=h1.resolve_left ar;apply jK hp;apply dB h1;exact hK _ _ (ak _ [0,3,15]) ⟨_,_,_,rfl,av⟩
 rintro _ ⟨v3,rows,clk,rfl,bA⟩;simp only [eV]at bA
 apply (dI)<;>intro h
 ·apply lF bA hs;exact eK [4]
 ·simp at h
theorem RJ{y x:List Int}{cg:List ZX}{an ad bn bd:Nat->Int}{r:Int}(hy:y.length<1000000)(hy1:¬y.length=1)(hz:aj 116 [PI y, .ag (eV x c (an 0) (ad 0) (bn 0) (bd 0))] (.bool false))(hp:aj 75 [.ag (eV x c (an 0) (ad 0) (bn 0) (bd 0))] (.bool false))(hC:aj 81 [PI y] (aw zq cg))
  (hb:∀j,j<J->aj 75 [.ag (eV x c (an j) (ad j) (bn j) (bd j))] (.bool false)∧(∃z:Int,aj 76 [aw zq cg,R2 (an j) (ad j),R2 (bn j) (bd j)] (ae z)∧0<z)∧aj 117 [.ag (eV x c (an j) (ad j) (bn j) (bd j))] (.ag (eV x c (an (j+1)) (ad (j+1)) (bn (j+1)) (bd (j+1)))))
  (g9:aj 75 [.ag (eV x c (an J) (ad J) (bn J) (bd J))] (.bool true)∨aj 75 [.ag (eV x c (an J) (ad J) (bn J) (bd J))] (.bool false)∧aj 76 [aw zq cg,R2 (an J) (ad J),R2 (bn J) (bd J)] (ae 0)) (hr:aj 77 [PI y,R2 (bn J) (bd J)] (ae r)) :
  aj 202 [PI y, .ag (eV x c (an 0) (ad 0) (bn 0) (bd 0))] (ae r):=by
 have atD:((y.length:Int)==1)=false:=by have:¬(y.length:Int)=1:=aa;simpa using this
 simp only [eV]at *;apply bL [(0,PI y),(1, .ag (eV x c (an 0) (ad 0) (bn 0) (bd 0)))] Tryz.func202;apply fB [0,3]
 apply fH hz [0,3,8]<;>intro h
 ·simp at h
 apply (jm);apply lE hp
 apply s8 atD [0,3,15]<;>intro h
 ·first | (simp at h;omega) | simp at h
 apply rf hC [0,3,5];apply (iR)
 refine W.aO (fun k σ=>∃(j v3:Nat),aQ σ [(0,PI y),(3, .ptr 3 v3 0 0),(5,aw zq cg)] fun rows clk=>rows 3=some ⟨v3,49,10,[eV x c (an j) (ad j) (bn j) (bd j)]⟩∧j+k=J) J ?_ ?_
 ·exact⟨_, .refl,0,_,_,_,rfl,av,aa⟩
 rintro k _ ⟨j,v3,rows,clk,rfl,bA,Ta⟩;simp only [eV]at bA;apply W.seq
 by_cases VV:j<J
 ·obtain⟨g1,⟨z,g2,g3⟩,g4⟩:=hb j VV;apply lF bA g1;apply iI bA g2;simp (disch:=omega) [gw,g3]
  apply u7 [0,3,5,33]<;>intro h
  ·apply (qj);refine AD bA g4 fun K hK=>?_;apply dB bA;refine hK _ ⟨k-1,_,ak _ [0,3,5],aa,j+1,v3,_,_,rfl,av,aa⟩
  ·simp at h
 ·have hjE:j=J:=by omega
  subst hjE
  refine W.dx (fun σ=>∃(v3:Nat),aQ σ [(0,PI y),(3, .ptr 3 v3 0 0),(5,aw zq cg),(33, .bool false)] fun rows clk=>rows 3=some ⟨v3,49,10,[eV x c (an j) (ad j) (bn j) (bd j)]⟩) (fun K hK=>?_) ?_
  ·rcases g9 with g1 | ⟨g1,g2⟩
   ·apply iI bA g1;apply (cp);exact hK _ _ (ak _ [0,3,5,33]) ⟨_,_,_,rfl,by simp [bA]⟩
   ·apply iI bA g1;apply iI bA g2;apply (cp);exact hK _ _ (ak _ [0,3,5,33]) ⟨_,_,_,rfl,by simp [bA]⟩
  rintro _ ⟨v3,rows,clk,rfl,bA⟩;simp only [eV]at bA
  apply (dI)<;>intro h
  ·simp at h
  apply (iq);apply iI bA hr;exact eK [4]
theorem Mb{p:ZX}{x:List Int}{an ad bn bd:Int}(sg:ZX->Int)(h00:sg 0=0)(hp:BZ s k p)(hk:k<=31)(hs:s<=1000000)(Ir:∀(q:ZX) (s':Nat),s'<=s+5*k->BZ s' k q->aj 202 [PI q.l, .ag (eV x c an ad bn bd)] (ae (sg q))) :
  aj 115 [PI p.l, .ag (eV x c an ad bn bd)] (ae (Gy sg (ZX.N p) p)):=by
 simp only [eV]at *;apply bL [(0,PI p.l),(1, .ag (eV x c an ad bn bd))] Tryz.func115;apply aR [0,3];apply (iR);obtain⟨v,hv⟩:∃v,Gy sg (ZX.N p) p=v:=⟨_,rfl⟩
 rw [hv]
 refine W.aO (fun m σ=>∃(q:ZX) (i:Nat) (v3:Nat),aQ σ [(0,PI q.l),(3, .ptr 3 v3 0 0)] fun rows clk=>rows 3=some ⟨v3,49,10,[eV x c an ad bn bd]⟩∧BZ (s+5*i) k q∧i+ZX.N q<=k∧Gy sg (ZX.N q) q=v∧m=ZX.N q) (ZX.N p) ?_ ?_
 ·exact⟨_, .refl,p,0,_,_,_,rfl,av,hp,by have:=hp.N;omega,hv,rfl⟩
 rintro m _ ⟨q,i,v3,rows,clk,rfl,bA,bq,qu,hg,rfl⟩;simp only [eV]at bA;have QQ:q.l.length=ZX.N q:=rfl
 apply cS [0,3,8]<;>intro h
 ·have h0:0<ZX.N q:=by simp at h;omega
  obtain⟨j,hj⟩:∃j,ZX.N q=j+1:=⟨ZX.N q-1,aa⟩
  have S1:=Ir q (s+5*i) aa bq;have D1:=pB bq (by show _<=137438953472;omega) aa;have hNd:=mL q;rw [hj,Gy]at hg;apply (qj);apply W.seq;apply lF bA S1;apply bM [0,3,5]
  apply fi [0,3,5,13]<;>intro h
  ·have h:¬sg q=0:=au h;rw [if_neg h]at hg;rw [hg];exact dS [4]
  ·have h:sg q=0:=au h;rw [if_pos h]at hg;apply W.skip;refine u9 D1 fun K hK=>?_;refine hK _ ⟨ZX.N (bQ q),_,ak _ [0,3],aa,bQ q,i+1,v3,_,_,rfl,by simp [bA],bq.bQ aa,aa,?_,rfl⟩;rw [<-hg];exact LZ h00 (Nat.le_refl _) aa
 ·have h0:ZX.N q=0:=by
   simp at h
   first | omega | (show q.l.length=0;rw [h];rfl)
  have hv0:v=0:=by rw [<-hg,h0];rfl
  subst hv0;exact rb [4]
def Ex(f:ZX)(p:Rat × Rat):Prop:=e p.2 f=0->p.1=p.2
theorem an5(f:ZX)(p:Rat × Rat):Ex f (ex f p):=by
 unfold Ex ex
 split
 ·intro _;rfl
 ·intro h;contradiction
theorem WK{f:ZX}(A:j7 f (vt (aH f)) p.1 p.2)(h:Ex f p):hv f p=tf f p∧Ex f (tf f p):=by
 unfold hv tf
 by_cases hp:p.1=p.2
 ·rw [if_pos hp,if_neg (by rw [hp];exact Rat.lt_irrefl)];exact⟨rfl,h⟩
 ·have bZ:p.1<p.2:=by have:=A.le;grind
  have km:e p.2 f≠0:=fun h0=>hp (h h0);rw [if_neg hp,if_pos bZ];obtain⟨m1,m2⟩:=oh bZ;generalize (p.1+p.2)/2=m at *
  by_cases h0:e m f=0
  ·have hv:vt (aH f) p.1=vt (aH f) p.2+1:=by
    rcases A.k with ⟨h,_⟩ | ⟨_,h⟩
    ·exact absurd h hp
    ·exact h
   have h5:vt (aH f) m<vt (aH f) p.1:=A.S.root m1 h0;rw [if_pos h5,if_pos h0];exact⟨if_pos h0,fun _=>rfl⟩
  ·rw [if_neg h0]
   by_cases h5:vt (aH f) m<vt (aH f) p.1
   ·rw [if_pos h5];exact⟨if_neg h0,fun h=>absurd h h0⟩
   ·rw [if_neg h5];exact⟨if_neg km,fun h=>absurd h km⟩
theorem WL{f:ZX}{p:Rat × Rat}(h:Ex f p)(hA:∀j,j7 f (vt (aH f)) (gB f p j).1 (gB f p j).2):∀j,Ex f (gB f p j)
 | 0=>h
 | j+1=>(WK (hA j) (WL h hA j)).2
theorem sX{f:ZX}(b:BZ s n f)(hs:s<=5000000)(hn:n<=31)(q:SQ u t)(hu:u<=1000000000):aj 77 [PI f.l,RR t] (ae (bU (e t f))):=by have hmul:n*(u+1)<=31*(u+1):=Nat.mul_le_mul_right _ hn;have s1:=sO b q.n2 q.d2 q.hu aa (by show _<137438953472;omega);rw [vZ]at s1;rw [bW];exact s1
structure QgC(s' k:Nat)(f q:ZX):Prop where
 bq:BZ s' k q
 hs:s'<=100000
 hk:k<=31
 q8:ZX.N q<=8
 hG:aj 203 [PI q.l,PI f.l] (PI (gz q f).l)
 IG:2<=ZX.N (gz q f) -> ∃sg ng,kS sg ng (gz q f)
 hC:q≠0 -> ∃sc nc,Ch sc nc (sq q)
 hCh:q≠0->aj 81 [PI q.l] (aw zq (aH (sq q)))
theorem AN.an6{f:ZX}(a:AN s n u f p)(c:QgC s' k f q):aj 116 [PI q.l,QA f (aH f) p] (.bool (decide (OL (bk f p) q=0))):=by
 have I:=a.I;have A:=a.A;have hu:=a.hu;have n8:=a.n8;have m8:=c.q8;have wF:=c.hs;have e1:=lJ (f:=f) (c:=aH f) a.q1 a.q2 aa;have hgN:ZX.N (gz q f)<=ZX.N f:=(ek q f).r.j2 I.nf.ne;have uI:(q.l.length=0)↔q=0:=by rw [show q.l.length=ZX.N q from rfl];exact⟨fun h=>Classical.byContradiction fun h0=>by have:=ZX.ax.1 h0;omega,fun h=>by rw [h];rfl⟩
 by_cases q0:q=0
 ·have hU:OL (bk f p) q=0:=by rw [q0];exact(show Ju (bk f p) 0 0 from .inl ⟨rfl,wq (cR A)⟩).eq (cR A)
  rw [decide_eq_true hU]
  by_cases h2:2<=ZX.N (gz q f)
  ·obtain⟨sg,ng,RA⟩:=c.IG h2;have k4:=RA.oP a.q1 a.q2 aa;rw [bW,bW]at k4;exact jG (by show ZX.N q<_;omega) (by show ZX.N (gz q f)<_;omega) e1 (fun _=>sX c.bq aa c.hk a.q1 aa) c.hG (fun _=>RA.xD) (fun _=>k4) (by rw [if_pos (uI.2 q0)])
  ·exact jG (by show ZX.N q<_;omega) (by show ZX.N (gz q f)<_;omega) e1 (fun _=>sX c.bq aa c.hk a.q1 aa) c.hG (fun hh=>absurd hh h2) (fun hh=>absurd hh h2) (b:=0) (cg:=[]) (by rw [if_pos (uI.2 q0)])
 have MF:¬q.l.length=0:=fun h=>q0 (uI.1 h)
 by_cases Ce:p.1=p.2
 ·rw [decide_eq_true Ce]at e1;have hU:=(BS (gW Ce) q).eq (cR A);rw [hU];have hz:decide (bU (e p.1 q)=0)=if q.l.length=0 then true else if true=true then bU (e p.1 q)==0 else if (gz q f).l.length<2 then false else decide ((0:Int)<0):=by rw [if_neg MF,if_pos rfl];rfl
  by_cases h2:2<=ZX.N (gz q f)
  ·obtain⟨sg,ng,RA⟩:=c.IG h2;have k4:=RA.oP a.q1 a.q2 aa;rw [bW,bW]at k4;exact jG (by show ZX.N q<_;omega) (by show ZX.N (gz q f)<_;omega) e1 (fun _=>sX c.bq aa c.hk a.q1 aa) c.hG (fun _=>RA.xD) (fun _=>k4) (by rw [if_neg MF,if_pos rfl];rfl)
  ·exact jG (by show ZX.N q<_;omega) (by show ZX.N (gz q f)<_;omega) e1 (fun _=>sX c.bq aa c.hk a.q1 aa) c.hG (fun hh=>absurd hh h2) (fun hh=>absurd hh h2) (b:=0) (cg:=[]) hz
 have bZ:p.1<p.2:=by have:=A.le;grind
 rw [decide_eq_false Ce]at e1;obtain⟨σ,hσ,an7⟩:=OO I.nf I.sq I.DZ aa A aa q0 bZ;rw [hσ.eq (cR A)]
 by_cases h2:2<=ZX.N (gz q f)
 ·obtain⟨sg,ng,RA⟩:=c.IG h2;have k4:=RA.oP a.q1 a.q2 aa;rw [if_neg (Rat.not_lt.2 (Rat.le_of_lt bZ)),bW,bW]at k4;refine jG (by show ZX.N q<_;omega) (by show ZX.N (gz q f)<_;omega) e1 (fun hh=>by cases hh) c.hG (fun _=>RA.xD) (fun _=>k4) (σ:=0) ?_;rw [if_neg MF,if_neg ar,if_neg (by show ¬ZX.N (gz q f)<2;omega)];exact decide_eq_decide.2 aa
 ·refine jG (by show ZX.N q<_;omega) (by show ZX.N (gz q f)<_;omega) e1 (fun hh=>by cases hh) c.hG (fun hh=>absurd hh h2) (fun hh=>absurd hh h2) (σ:=0) (b:=0) (cg:=[]) ?_;rw [if_neg MF,if_neg ar,if_pos (by show ZX.N (gz q f)<2;omega)];refine decide_eq_false fun hh=>?_;have hz:=an7.1 hh;have:gz q f=1:=(yj (.inr I.nf.ne)).N1 aa;rw [this]at hz;have XS:=rV ZX.mJ (fun d h1 h2=>by have:=h1.j2 ZX.mJ;rwa [ZX.tL]at this) (by rw [ZX.tL];omega);have:=XS.const bZ (σ:=1) (.inr (by rw [Ol];decide)) (fun x _ _=>by rw [Ol];decide);omega
theorem AN.qsg{f:ZX}(a:AN s n u f p)(hx:Ex f p)(c:QgC s' k f q):aj 202 [PI q.l,QA f (aH f) p] (ae (OL (bk f p) q)):=by
 have I:=a.I;have A:=a.A;have hu:=a.hu;have hs:=a.hs;have wF:=c.hs;have hk:=c.hk;have n8:=a.n8;have m8:=c.q8;have Z:=a.an6 c
 by_cases hz:OL (bk f p) q=0
 ·rw [hz];rw [decide_eq_true hz]at Z;exact I2 Z
 rw [decide_eq_false hz]at Z;have q0:q≠0:=fun h=>hz (by rw [h];exact(show Ju (bk f p) 0 0 from .inl ⟨rfl,wq (cR A)⟩).eq (cR A));have P0:=lJ (f:=f) (c:=aH f) a.q1 a.q2 aa;have AV:q.l.length<1000000:=by show ZX.N q<_;omega
 by_cases Ce:p.1=p.2∨ZX.N q=1
 ·have ni:=sX c.bq aa hk a.q1 (show u<=1000000000 by omega)
  have hv:OL (bk f p) q=bU (e p.1 q):=by
   by_cases h1:p.1=p.2
   ·exact(BS (gW h1) q).eq (cR A)
   ·obtain⟨d,hd,rfl⟩:=ZX.j1 (Ce.resolve_left h1);rw [wN];have hdq:(d:Rat)≠0:=fun h0=>hd (Rat.intCast_eq_zero_iff.1 h0);refine Ju.eq (cR A) (.inr ⟨?_,1,p.1-1,p.2,ar,A.gk (.inl aG),dZ,fun x _ _=>by rw [wN];exact⟨rfl,sS hd⟩⟩)
    rcases cP (d:Rat)with ⟨_,h⟩ | ⟨h,_⟩ | ⟨_,h⟩
    ·exact .inr h
    ·exact absurd h hdq
    ·exact .inl h
  rw [hv]
  exact RH AV Z P0 (by
   rcases Ce with h | h
   ·exact .inl (decide_eq_true h)
   ·exact .inr h) ni
 obtain⟨h1,h2⟩:=not_or.1 Ce;have bZ:p.1<p.2:=by have:=A.le;grind
 rw [decide_eq_false h1]at P0;obtain⟨σ,hσ,an7⟩:=OO I.nf I.sq I.DZ aa A aa q0 bZ;rw [hσ.eq (cR A)]at hz;obtain⟨nq,hmu⟩:=j5 q0;have hNq:ZX.N (sq q)<=ZX.N q:=(pD q0).j2 q0;have Sq:=rV nq.ne (ON q0) aa;obtain⟨w,S⟩:=j9 (h:=sq q) I.nf I.DZ;rw [WJ I.nf I.sq q0]at S;have n1:=S.N;have Sg:=rV S.ng.ne S.sg aa;have Sw:=rV S.nw.ne S.sw aa;have mγ:=Sg.bI (Rat.le_of_lt bZ);obtain⟨sc,nc,C⟩:=c.hC q0;obtain⟨cb,cl⟩:=C.all;obtain⟨D,Jt,uJ,g1,g2⟩:=yw a.q1 a.q2;have key:=BR A g1 g2;have hE:=WL hx fun j=>(key j).1;obtain⟨N,hN⟩:∃N,N=64+4*(ZX.N f+ZX.N q)*(zs f+zs q+(ZX.N f+ZX.N q)+8):=⟨_,rfl⟩
 have hzf:=yx I.ch.bz;have hzq:=yx c.bq;have hM:4*(ZX.N f+ZX.N q)*(zs f+zs q+(ZX.N f+ZX.N q)+8)<=4*16*(100000+100000+16+8):=Nat.mul_le_mul aa aa;obtain⟨J,hJ,hj,g9⟩:=js (fun j=>(gB f p j).1=(gB f p j).2∨vt (aH (sq q)) (gB f p j).1=vt (aH (sq q)) (gB f p j).2) N
 have mN:(gB f p J).1=(gB f p J).2∨vt (aH (sq q)) (gB f p J).1=vt (aH (sq q)) (gB f p J).2:=by
  by_cases hJN:J<N
  ·exact g9 hJN
  have hJE:J=N:=aa;obtain⟨k1,k2,k3,k4,k5,_⟩:=key J;exact a.stop c.bq m8 q0 S bZ aa k1 k3 k4 k5 aa
 have hV:3*u+N+3<=1000000000:=aa;have sqJ:∀j,j<=N->SQ (3*u+N+3) (gB f p j).1∧SQ (3*u+N+3) (gB f p j).2∧SQ (3*u+N+3) (((gB f p j).1+(gB f p j).2)/2)∧SQ (3*u+N+3) ((gB f p j).1+(gB f p j).2):=fun j hj=>by obtain⟨_,_,_,_,_,k6,k7⟩:=key j;exact⟨(k6.sq Jt uJ).mono aa,(k7.sq Jt uJ).mono aa,((k6.A3 k7).sq Jt uJ).mono aa,((k6.add k7).sq Jt uJ).mono aa⟩
 have btw:∀j,j<=N->aj 76 [aw zq (aH (sq q)),RR (gB f p j).1,RR (gB f p j).2] (ae ((vt (aH (sq q)) (gB f p j).1:Int)-vt (aH (sq q)) (gB f p j).2)):=fun j hj=>by obtain⟨s1,s2,_⟩:=sqJ j hj;have:=LO cb C.hn cl s1 s2 hV;rwa [if_neg (Rat.not_lt.2 (key j).1.le)]at this
 obtain⟨sJ1,sJ2,_⟩:=sqJ J hJ
 have R1:=RJ (c:=aH f) (cg:=aH (sq q)) (an:=fun j=>(gB f p j).1.num) (ad:=fun j=>(gB f p j).1.den) (bn:=fun j=>(gB f p j).2.num) (bd:=fun j=>(gB f p j).2.den) (J:=J) (r:=bU (e (gB f p J).2 q)) AV h2 Z P0 (c.hCh q0) (fun j JP=>by
   obtain⟨s1,s2,s3,s4⟩:=sqJ j aa;have wZ:=not_or.1 (hj j JP);have ag6:(gB f p j).1<(gB f p j).2:=(by have:=(key j).1.le;grind);have Pj:=lJ (f:=f) (c:=aH f) s1 s2 hV;rw [decide_eq_false wZ.1]at Pj;have m:=Sq.bI (Rat.le_of_lt ag6);have H:=I.Wp (key j).1.le s1 s2 s3 s4 hV;rw [(WK (key j).1 (hE j)).1]at H;exact⟨Pj,⟨_,btw j aa,by have:=wZ.2;omega⟩,H⟩) (by
   have Pj:=lJ (f:=f) (c:=aH f) sJ1 sJ2 hV
   by_cases hp:(gB f p J).1=(gB f p J).2
   ·rw [decide_eq_true hp]at Pj;exact .inl Pj
   ·rw [decide_eq_false hp]at Pj;refine .inr ⟨Pj,?_⟩;have h3:=btw J hJ;rw [mN.resolve_left hp,Int.sub_self]at h3;exact h3) (sX c.bq aa hk sJ2 hV)
 have hU:OL (bk f p) q=bU (e (gB f p J).2 q):=by
  obtain⟨k1,k2,k3,k4,_⟩:=key J;have e1:bk f p=bk f (gB f p J):=funext fun t=>propext (k2 t).symm;rw [e1]
  by_cases hp:(gB f p J).1=(gB f p J).2
  ·rw [<-hp];exact(BS (gW hp) q).eq (cR k1)
  ·have F6:(gB f p J).1<(gB f p J).2:=(by have:=k1.le;grind);have m1:=Sg.bI k3;have m2:=Sg.bI k4;have m3:=Sg.bI (Rat.le_of_lt F6);exact(Ma k1 S Sg Sw F6 aa q0 rfl aa Sq (mN.resolve_left hp)).eq (cR k1)
 rw [hU];exact R1
theorem Mc{pn pd qn qd z rn rd:Int}(n1:aj 147 [T2 pn pd] (T2 pn pd))(n2:aj 147 [T2 qn qd] (T2 qn qd))(zc:aj 86 [T2 qn qd,T2 pn pd] (ae z))(hr:if 0<z then rn=qn∧rd=qd else rn=pn∧rd=pd) :
  aj 90 [T2 pn pd, .sl [[.bool (decide (qn<0)),us (aI LL qn.natAbs), .bool (decide (qd<0)),us (aI LL qd.natAbs)]]] (T2 rn rd):=by
 apply bL [(0,T2 pn pd),(1, .sl [[.bool (decide (qn<0)),us (aI LL qn.natAbs), .bool (decide (qd<0)),us (aI LL qd.natAbs)]])] Tryz.func90;apply fk [1,2,4] n1 [1,4,5];apply dU [4,5,10,11,12]
 refine W.aO (fun k σ=>∃(i:Nat) (mn md:Int),aQ σ [(4, .ptr 4 1 0 0),(5, .ptr 5 2 0 0),(10, .sl [[.bool (decide (qn<0)),us (aI LL qn.natAbs), .bool (decide (qd<0)),us (aI LL qd.natAbs)]]),(11,ae 1),(12,ae i)] fun rows clk=>rows 4=some ⟨1,52,4,[[.bool false, .nil, .bool false, .nil]]⟩∧rows 5=some ⟨2,52,4,[[.bool (decide (mn<0)),us (aI LL mn.natAbs), .bool (decide (md<0)),us (aI LL md.natAbs)]]⟩ ∧
  ((i=0∧mn=pn∧md=pd)∨(i=1∧mn=rn∧md=rd))∧i+k=1) 1 ?_ ?_
 ·exact⟨_,ak _ [4,5,10,11,12],0,pn,pd,_,_,rfl,av,av, .inl ⟨rfl,rfl,rfl⟩,aa⟩
 rintro k _ ⟨i,mn,md,rows,clk,rfl,cN,dj,hI,qu⟩
 rcases hI with ⟨rfl,rfl,rfl⟩ | ⟨rfl,rfl,rfl⟩
 ·apply ef [4,5,10,11,12,13]<;>intro h
  ·apply W.skip
   refine W.dh (fun σ=>aQ σ [(4, .ptr 4 1 0 0),(5, .ptr 5 2 0 0),(10, .sl [[.bool (decide (qn<0)),us (aI LL qn.natAbs), .bool (decide (qd<0)),us (aI LL qd.natAbs)]]),(11,ae 1),(12,ae 0)] fun rows clk=>rows 4=some ⟨1,52,4,[[.bool false, .nil, .bool false, .nil]]⟩∧rows 5=some ⟨2,52,4,[[.bool (decide (rn<0)),us (aI LL rn.natAbs), .bool (decide (rd<0)),us (aI LL rd.natAbs)]]⟩) ?_ ?_
   ·apply aR [4,5,7,10,11,12];apply lF dj zc
    apply kt [4,5,7,10,11,12,19]<;>intro h
    ·have h:0<z:=au h;rw [if_pos h]at hr;obtain⟨rfl,rfl⟩:=hr;refine AD dj n2 fun K hK=>?_;apply dB dj;exact hK _ ⟨_,ak _ [4,5,10,11,12],_,_,rfl,by simp [cN],by simp [dj]⟩
    ·have h:¬0<z:=au h;rw [if_neg h]at hr;obtain⟨rfl,rfl⟩:=hr;apply W.skip;exact⟨_,ak _ [4,5,10,11,12],_,_,rfl,by simp [cN],by simp [dj]⟩
   rintro _ ⟨rows,clk,rfl,cN,dj⟩;refine bB fun K hK=>?_;refine hK _ ⟨0,_,ak _ [4,5,10,11,12],aa,1,rn,rd,_,_,rfl,cN,dj, .inr ⟨rfl,rfl,rfl⟩,rfl⟩
  ·simp at h
 ·apply ef [4,5,10,11,12,13]<;>intro h
  ·simp at h
  ·apply (iq);exact AB cN dj [4]
theorem RK{p q:Rat}(hp:SQ u p)(hq:SQ u q)(hu:u<=1000000000):aj 90 [RT p, .sl [tc q]] (RT (if p<q then q else p)):=by
 obtain⟨l1,l2⟩:=hp.LLt (show u<1099511627770 by omega);obtain⟨l3,l4⟩:=hq.LLt (show u<1099511627770 by omega);have n1:=mm l1 l2;have n2:=mm l3 l4;rw [aX]at n1 n2;have z:=cX hq.nL hq.dL hp.nL hp.dL aa (aX q) (aX p) ⟨hq.nL,hq.dL⟩ ⟨hp.nL,hp.dL⟩;refine Mc n1 n2 z ?_
 by_cases h:p<q
 ·rw [if_pos (fE.2 h),if_pos h];exact⟨rfl,rfl⟩
 ·rw [if_neg (fun h2=>h (fE.1 h2)),if_neg h];exact⟨rfl,rfl⟩
theorem an8{x y:Int}(hx:Sz x)(hy:Sz y):aj 248 [I x,I y] (I (x-y)):=by have:=Ht (decide (x<0)) (decide (y<0)) (aI LL x.natAbs) (aI LL y.natAbs) hx.Nc hy.Nc;rwa [xe,xe]at this
theorem aaJ(p q:Rat):dw (p.num*q.den-q.num*p.den) (p.den*q.den)=p-q:=by
 have h1:((p.den:Int)*q.den)≠0:=by have:=p.den_nz;have:=q.den_nz;refine Int.mul_ne_zero ?_ ?_<;>omega
 refine FL h1 ?_;rw [Rat.intCast_sub,Rat.intCast_mul,Rat.intCast_mul,Rat.intCast_mul,we p,we q];grind
theorem Ea{p q:Rat}(hp:sz LL p.num<=k∧sz LL (p.den:Int)<=k)(hq:sz LL q.num<=k∧sz LL (q.den:Int)<=k)(hk:k<=300000000000):aj 253 [RT p,RT q] (RT (p-q)):=by
 have c1:=xv hp.1 hp.2 hq.1 hq.2 aa (aX p) (aX q) hp hq;have g1:=ct (b:=LL) fV hp.1 hq.2;have g2:=ct (b:=LL) fV hq.1 hp.2;have g3:=ct (b:=LL) fV hp.2 hq.2;have g5:=mA (b:=LL) fV (Nat.le_trans g1 (show k+k<=k+k from Nat.le_refl _)) (Nat.le_trans (Nat.le_of_eq (n4 _)) (Nat.le_trans g2 (show k+k<=k+k from Nat.le_refl _)));rw [<-Int.sub_eq_add_neg]at g5;have a1:=an8 (x:=p.num*q.den) (y:=q.num*p.den) (by show _<_;omega) (by show _<_;omega);have h1:((p.den:Int)*q.den)≠0:=by have:=p.den_nz;have:=q.den_nz;refine Int.mul_ne_zero ?_ ?_<;>omega
 have l1:=pC (n:=p.num*q.den-q.num*p.den) (d:=p.den*q.den) aa aa h1;rw [aaJ]at l1;show aj _ [T2 p.num p.den,T2 q.num q.den] (T2 (p-q).num (p-q).den)
 replace l1:aj 169 [I (p.num*q.den-q.num*p.den),I (p.den*q.den)] (T2 (p-q).num (p-q).den):=l1
 clear g1 g2 g3 g5 h1 hp hq;generalize (p-q).num=rn,((p-q).den:Int)=rd,p.num*(q.den:Int)-q.num*p.den=x4 at *;generalize p.num*(q.den:Int)=x1,q.num*(p.den:Int)=x2,(p.den:Int)*(q.den:Int)=x3 at *;generalize p.num=pn,(p.den:Int)=pd,q.num=qn,(q.den:Int)=qd at *;apply bL [(0,T2 pn pd),(1,T2 qn qd)] Tryz.func253;apply fk [2,3,4] c1 [4,5,6,7];apply W.sd;simp (maxSteps:=4000000) (disch:=omega) [gw];apply cT a1;simp (maxSteps:=4000000) (disch:=omega) [gw];apply cT l1;simp (maxSteps:=4000000) (disch:=omega) [gw]
 (try (refine aM (of_decide_eq_true bX) ?_));(try simp (maxSteps:=4000000) (disch:=omega) [gw]);(repeat rw [if_pos bX]);(try simp (maxSteps:=4000000) (disch:=omega) [gw])
 exact qi [4]
set_option maxHeartbeats 4000000 in
theorem Md{x y:List Int}{an ad bn bd cn cd dn dd:Nat->Int}{N:Nat}{c:Int}(hs:aj 252 [.ag (G9 x (an 0) (ad 0) (bn 0) (bd 0)), .ag (G9 y (cn 0) (cd 0) (dn 0) (dd 0))] (ae N))(hN:N<1000000000000000)
  (hb:∀j,j<J->(∃z1,aj 86 [T2 (bn j) (bd j),T2 (cn j) (cd j)] (ae z1)∧0<z1)∧(∃z2,aj 86 [T2 (dn j) (dd j),T2 (an j) (ad j)] (ae z2)∧0<z2) ∧
   ∃wn wd vn vd z3,aj 253 [T2 (bn j) (bd j),T2 (an j) (ad j)] (T2 wn wd)∧aj 253 [T2 (dn j) (dd j),T2 (cn j) (cd j)] (T2 vn vd)∧aj 86 [T2 wn wd,T2 vn vd] (ae z3) ∧
   (if 0<=z3 then aj 254 [.ag (G9 x (an j) (ad j) (bn j) (bd j))] (.ag (G9 x (an (j+1)) (ad (j+1)) (bn (j+1)) (bd (j+1))))∧G9 y (cn (j+1)) (cd (j+1)) (dn (j+1)) (dd (j+1))=G9 y (cn j) (cd j) (dn j) (dd j)
    else aj 254 [.ag (G9 y (cn j) (cd j) (dn j) (dd j))] (.ag (G9 y (cn (j+1)) (cd (j+1)) (dn (j+1)) (dd (j+1))))∧G9 x (an (j+1)) (ad (j+1)) (bn (j+1)) (bd (j+1))=G9 x (an j) (ad j) (bn j) (bd j))) (hJ:J<N) {z1 z2:Int} {pa pb:Bool}
  (k1:aj 86 [T2 (bn J) (bd J),T2 (cn J) (cd J)] (ae z1)) (k2:aj 86 [T2 (dn J) (dd J),T2 (an J) (ad J)] (ae z2)) (p1:aj 193 [.ag (G9 x (an J) (ad J) (bn J) (bd J))] (.bool pa)) (p2:aj 193 [.ag (G9 y (cn J) (cd J) (dn J) (dd J))] (.bool pb))
  (hp:¬(pa=true∧pb=true∧z1=0)) (Gq:¬(pa=true∧pb=true∧z2=0)) (hc:(z1<=0∧c = -1)∨(0<z1∧z2<=0∧c=1)) :
  aj 196 [.ag (G9 x (an 0) (ad 0) (bn 0) (bd 0)), .ag (G9 y (cn 0) (cd 0) (dn 0) (dd 0))] (.cW [.ag (G9 x (an J) (ad J) (bn J) (bd J)), .ag (G9 y (cn J) (cd J) (dn J) (dd J)),ae c]):=by
 simp only [G9]at *;apply bL [(0, .ag (G9 x (an 0) (ad 0) (bn 0) (bd 0))),(1, .ag (G9 y (cn 0) (cd 0) (dn 0) (dd 0)))] Tryz.func196;apply fB [2,3,4,5];apply gT hs [2,3,4,5,9,10];apply W.block
 refine W.aO (fun k σ=>∃(j:Nat),aQ σ [(2, .ptr 2 0 0 0),(3, .ptr 3 1 0 0),(4, .ptr 4 2 0 0),(5, .ptr 5 3 0 0),(9,ae N),(10,ae j)] fun rows clk=>rows 2=some ⟨0,54,9,[G9 x (an j) (ad j) (bn j) (bd j)]⟩∧rows 3=some ⟨1,54,9,[G9 y (cn j) (cd j) (dn j) (dd j)]⟩∧rows 4=some ⟨2,54,9,[[.nil, .bool false, .nil, .bool false, .nil, .bool false, .nil, .bool false, .nil]]⟩∧rows 5=some ⟨3,54,9,[[.nil, .bool false, .nil, .bool false, .nil, .bool false, .nil, .bool false, .nil]]⟩∧j+k=J) J ?_ ?_
 ·exact⟨_, .refl,0,_,_,rfl,av,av,av,av,aa⟩
 rintro k _ ⟨j,rows,clk,rfl,bE,bA,cN,dj,Ta⟩;simp only [G9]at bE bA
 apply ef [2,3,4,5,9,10,11]<;>intro h
 ·apply W.skip
  by_cases VV:j<J
  ·obtain⟨⟨u1,m1,o1⟩,⟨u2,m2,o2⟩,wn,wd,vn,vd,z3,s1,s2,s3,hh⟩:=hb j VV;have o1':¬u1<=0:=aa;have o2':¬u2<=0:=aa
   refine W.dh (fun σ=>aQ σ [(2, .ptr 2 0 0 0),(3, .ptr 3 1 0 0),(4, .ptr 4 2 0 0),(5, .ptr 5 3 0 0),(9,ae N),(10,ae j)] fun rows clk=>rows 2=some ⟨0,54,9,[G9 x (an (j+1)) (ad (j+1)) (bn (j+1)) (bd (j+1))]⟩∧rows 3=some ⟨1,54,9,[G9 y (cn (j+1)) (cd (j+1)) (dn (j+1)) (dd (j+1))]⟩∧rows 4=some ⟨2,54,9,[[.nil, .bool false, .nil, .bool false, .nil, .bool false, .nil, .bool false, .nil]]⟩∧rows 5=some ⟨3,54,9,[[.nil, .bool false, .nil, .bool false, .nil, .bool false, .nil, .bool false, .nil]]⟩) ?_ ?_
   ·apply (iR);apply lG bE bA m1;simp (disch:=omega) [gw,o1']
    apply u7 [2,3,4,5,9,10,12]<;>intro h
    ·simp at h
    apply lG bE bA m2;simp (disch:=omega) [gw,o2']
    apply u7 [2,3,4,5,9,10,38]<;>intro h
    ·simp at h
    apply W.skip;apply W.sd;apply iS bE bA s1;apply iS bE bA s2;apply jK s3
    apply kt [2,3,4,5,9,10,75]<;>intro h
    ·have h3:0<=z3:=au h;rw [if_pos h3]at hh;obtain⟨h1,h2⟩:=hh;refine AD bE h1 fun K hK=>?_;apply dB bE;exact hK _ ⟨_,ak _ [2,3,4,5,9,10],_,_,rfl,av,by simp only [G9];rw [h2];simp [bA],by simp [cN],by simp [dj]⟩
    ·have h3:¬0<=z3:=au h;rw [if_neg h3]at hh;obtain⟨h1,h2⟩:=hh;refine AD bA h1 fun K hK=>?_;apply dB bA;exact hK _ ⟨_,ak _ [2,3,4,5,9,10],_,_,rfl,by simp only [G9];rw [h2];simp [bE],av,by simp [cN],by simp [dj]⟩
   rintro _ ⟨rows,clk,rfl,bE,bA,cN,dj⟩;refine bB fun K hK=>?_;refine hK _ ⟨k-1,_,ak _ [2,3,4,5,9,10],aa,j+1,_,_,rfl,bE,bA,cN,dj,aa⟩
  ·have hjE:j=J:=(by omega);subst hjE;apply (iR);apply (iR)
   rcases hc with ⟨hz,rfl⟩ | ⟨RL,hz,rfl⟩
   ·refine W.dx (fun σ=>aQ σ [(2, .ptr 2 0 0 0),(3, .ptr 3 1 0 0),(4, .ptr 4 2 0 0),(5, .ptr 5 3 0 0),(9,ae N),(10,ae j),(12, .bool true)] fun rows clk=>rows 2=some ⟨0,54,9,[G9 x (an j) (ad j) (bn j) (bd j)]⟩∧rows 3=some ⟨1,54,9,[G9 y (cn j) (cd j) (dn j) (dd j)]⟩∧rows 4=some ⟨2,54,9,[[.nil, .bool false, .nil, .bool false, .nil, .bool false, .nil, .bool false, .nil]]⟩∧rows 5=some ⟨3,54,9,[[.nil, .bool false, .nil, .bool false, .nil, .bool false, .nil, .bool false, .nil]]⟩) (fun K hK=>?_) ?_
    ·cases pa with
     | false =>
      apply iS bE bA k1;apply ra hz bE bA p1;apply fN bE bA;exact hK _ _ (ak _ [2,3,4,5,9,10,12]) ⟨_,_,rfl,by simp [bE],by simp [bA],by simp [cN],by simp [dj]⟩
     | true =>
      cases pb with
      | false =>
       apply iS bE bA k1;apply ra hz bE bA p1;apply iS bE bA p2;apply fN bE bA;exact hK _ _ (ak _ [2,3,4,5,9,10,12]) ⟨_,_,rfl,by simp [bE],by simp [bA],by simp [cN],by simp [dj]⟩
      | true =>
       have lT:(z1==0)=false:=(by have:¬z1=0:=fun h=>hp ⟨rfl,rfl,h⟩;simpa using this);apply iS bE bA k1;apply ra hz bE bA p1;apply iS bE bA p2;apply iS bE bA k1;apply dB lT;exact hK _ _ (ak _ [2,3,4,5,9,10,12]) ⟨_,_,rfl,by simp [bE],by simp [bA],by simp [cN],by simp [dj]⟩
    rintro _ ⟨rows,clk,rfl,bE,bA,cN,dj⟩;simp only [G9]at bE bA
    apply (dI)<;>intro h
    ·apply W.sd;apply EV bE bA cN dj
     (try (refine aM (of_decide_eq_true bX) ?_));(try simp (maxSteps:=4000000) (disch:=omega) [gw,cN,dj]);(repeat rw [if_pos bX]);(try simp (maxSteps:=4000000) (disch:=omega) [gw,cN,dj])
     (try (refine aM (of_decide_eq_true bX) ?_));(try simp (maxSteps:=4000000) (disch:=omega) [gw,cN,dj]);(repeat rw [if_pos bX]);(try simp (maxSteps:=4000000) (disch:=omega) [gw,cN,dj])
     exact qi [4,5,6]
    ·simp at h
   ·have atF:¬z1<=0:=(by omega);apply lG bE bA k1
    apply s8 atF [2,3,4,5,9,10,12]<;>intro h
    ·simp at h
    refine W.dx (fun σ=>aQ σ [(2, .ptr 2 0 0 0),(3, .ptr 3 1 0 0),(4, .ptr 4 2 0 0),(5, .ptr 5 3 0 0),(9,ae N),(10,ae j),(38, .bool true)] fun rows clk=>rows 2=some ⟨0,54,9,[G9 x (an j) (ad j) (bn j) (bd j)]⟩∧rows 3=some ⟨1,54,9,[G9 y (cn j) (cd j) (dn j) (dd j)]⟩∧rows 4=some ⟨2,54,9,[[.nil, .bool false, .nil, .bool false, .nil, .bool false, .nil, .bool false, .nil]]⟩∧rows 5=some ⟨3,54,9,[[.nil, .bool false, .nil, .bool false, .nil, .bool false, .nil, .bool false, .nil]]⟩) (fun K hK=>?_) ?_
    ·cases pa with
     | false =>
      apply iS bE bA k2;apply ra hz bE bA p1;apply fN bE bA;exact hK _ _ (ak _ [2,3,4,5,9,10,38]) ⟨_,_,rfl,by simp [bE],by simp [bA],by simp [cN],by simp [dj]⟩
     | true =>
      cases pb with
      | false =>
       apply iS bE bA k2;apply ra hz bE bA p1;apply iS bE bA p2;apply fN bE bA;exact hK _ _ (ak _ [2,3,4,5,9,10,38]) ⟨_,_,rfl,by simp [bE],by simp [bA],by simp [cN],by simp [dj]⟩
      | true =>
       have lT:(z2==0)=false:=(by have:¬z2=0:=fun h=>Gq ⟨rfl,rfl,h⟩;simpa using this);apply iS bE bA k2;apply ra hz bE bA p1;apply iS bE bA p2;apply iS bE bA k2;apply dB lT;exact hK _ _ (ak _ [2,3,4,5,9,10,38]) ⟨_,_,rfl,by simp [bE],by simp [bA],by simp [cN],by simp [dj]⟩
    rintro _ ⟨rows,clk,rfl,bE,bA,cN,dj⟩;simp only [G9]at bE bA
    apply (dI)<;>intro h
    ·apply W.sd;apply EV bE bA cN dj
     (try (refine aM (of_decide_eq_true bX) ?_));(try simp (maxSteps:=4000000) (disch:=omega) [gw,cN,dj]);(repeat rw [if_pos bX]);(try simp (maxSteps:=4000000) (disch:=omega) [gw,cN,dj])
     (try (refine aM (of_decide_eq_true bX) ?_));(try simp (maxSteps:=4000000) (disch:=omega) [gw,cN,dj]);(repeat rw [if_pos bX]);(try simp (maxSteps:=4000000) (disch:=omega) [gw,cN,dj])
     exact qi [4,5,6]
    ·simp at h
 ·exfalso;simp at h;omega
section
variable {x y:List Int} {an ad bn bd cn cd dn dd:Int} (nx:aj 192 [.ag (G9 x an ad bn bd)] (.ag (G9 x an ad bn bd))) (ny:aj 192 [.ag (G9 y cn cd dn dd)] (.ag (G9 y cn cd dn dd)))
include nx ny
theorem ag7{r:Int}(hr:r = -1∨r=0∨r=1)(p1:aj 193 [.ag (G9 x an ad bn bd)] (.bool true))(k:aj 111 [.ag (G9 y cn cd dn dd),T2 an ad] (ae r)):aj 110 [.ag (G9 x an ad bn bd), .ag (G9 y cn cd dn dd)] (ae (-r)):=by
 have hw:IntKind.wrap .i64 (-r) = -r:=wrap_i64 aa aa;simp only [G9]at *;apply bL [(0, .ag (G9 x an ad bn bd)),(1, .ag (G9 y cn cd dn dd))] Tryz.func110;apply gr [2,3];apply eO nx ny;apply (cp)
 (try (refine aM (of_decide_eq_true bX) ?_));(try simp (maxSteps:=4000000) (disch:=omega) [gw]);(repeat rw [if_pos bX]);(try simp (maxSteps:=4000000) (disch:=omega) [gw])
 (try (refine aM (of_decide_eq_true bX) ?_));(try simp (maxSteps:=4000000) (disch:=omega) [gw]);(repeat rw [if_pos bX]);(try simp (maxSteps:=4000000) (disch:=omega) [gw])
 apply c9 [2,3];apply (iR)
 apply fH p1 [2,3,15]<;>intro h
 ·apply lE k;exact EU hw [4]
 ·simp at h
theorem ag8{r:Int}(p1:aj 193 [.ag (G9 x an ad bn bd)] (.bool false))(p2:aj 193 [.ag (G9 y cn cd dn dd)] (.bool true))(k:aj 111 [.ag (G9 x an ad bn bd),T2 cn cd] (ae r)):aj 110 [.ag (G9 x an ad bn bd), .ag (G9 y cn cd dn dd)] (ae r):=by
 simp only [G9]at *;apply bL [(0, .ag (G9 x an ad bn bd)),(1, .ag (G9 y cn cd dn dd))] Tryz.func110;apply gr [2,3];apply eO nx ny;apply (cp)
 (try (refine aM (of_decide_eq_true bX) ?_));(try simp (maxSteps:=4000000) (disch:=omega) [gw]);(repeat rw [if_pos bX]);(try simp (maxSteps:=4000000) (disch:=omega) [gw])
 (try (refine aM (of_decide_eq_true bX) ?_));(try simp (maxSteps:=4000000) (disch:=omega) [gw]);(repeat rw [if_pos bX]);(try simp (maxSteps:=4000000) (disch:=omega) [gw])
 apply c9 [2,3];apply (iR)
 apply fH p1 [2,3,15]<;>intro h
 ·simp at h
 apply fH p2 [2,3,23]<;>intro h
 ·exact yN k [4]
 ·simp at h
set_option maxHeartbeats 4000000 in
theorem OP{g:List Int}{ln ld hn hd zd zl dg r:Int}{v w:PV}{hs:Bool}(p1:aj 193 [.ag (G9 x an ad bn bd)] (.bool false))(p2:aj 193 [.ag (G9 y cn cd dn dd)] (.bool false))
  (kM:aj 90 [T2 an ad, .sl [[.bool (decide (cn<0)),us (aI LL cn.natAbs), .bool (decide (cd<0)),us (aI LL cd.natAbs)]]] (T2 ln ld)) (kD:aj 86 [T2 dn dd,T2 bn bd] (ae zd)) (hh:if zd<0 then hn=dn∧hd=dd else hn=bn∧hd=bd) (kL:aj 86 [T2 ln ld,T2 hn hd] (ae zl))
  (hG:zl<0->aj 194 [.sl [[Po x],[Po y]]] (Po g)) (hD:zl<0->aj 83 [Po g] (ae dg)) (hH:zl<0->0<dg->aj 195 [Po g,T2 ln ld,T2 hn hd] (.bool hs)) (hr:zl<0∧0<dg∧hs=true->r=0)
  (hA:¬(zl<0∧0<dg∧hs=true)->aj 196 [.ag (G9 x an ad bn bd), .ag (G9 y cn cd dn dd)] (.cW [v,w,ae r])) (hv:∃a b c d,v = .ag (G9 x a b c d)) (hw:∃a b c d,w = .ag (G9 y a b c d)) :
  aj 110 [.ag (G9 x an ad bn bd), .ag (G9 y cn cd dn dd)] (ae r):=by
 obtain⟨va,vb,vc,vd,rfl⟩:=hv;obtain⟨wa,wb,wc,wd,rfl⟩:=hw;simp only [G9]at *;apply bL [(0, .ag (G9 x an ad bn bd)),(1, .ag (G9 y cn cd dn dd))] Tryz.func110;apply gr [2,3];apply eO nx ny;apply (cp)
 (try (refine aM (of_decide_eq_true bX) ?_));(try simp (maxSteps:=4000000) (disch:=omega) [gw]);(repeat rw [if_pos bX]);(try simp (maxSteps:=4000000) (disch:=omega) [gw])
 (try (refine aM (of_decide_eq_true bX) ?_));(try simp (maxSteps:=4000000) (disch:=omega) [gw]);(repeat rw [if_pos bX]);(try simp (maxSteps:=4000000) (disch:=omega) [gw])
 apply c9 [2,3];apply (iR)
 apply fH p1 [2,3,15]<;>intro h
 ·simp at h
 apply fH p2 [2,3,23]<;>intro h
 ·simp at h
 apply W.skip;apply W.sd;apply jK kM;simp (maxSteps:=4000000) (disch:=omega) [gw]
 (try (refine aM (of_decide_eq_true bX) ?_));(try simp (maxSteps:=4000000) (disch:=omega) [gw]);(repeat rw [if_pos bX]);(try simp (maxSteps:=4000000) (disch:=omega) [gw])
 (try (refine aM (of_decide_eq_true bX) ?_));(try simp (maxSteps:=4000000) (disch:=omega) [gw]);(repeat rw [if_pos bX]);(try simp (maxSteps:=4000000) (disch:=omega) [gw])
 apply c9 [2,3,5,6]
 refine W.fR (fun σ=>∃(v5 v6:Nat),aQ σ [(2, .ptr 2 0 0 0),(3, .ptr 3 1 0 0),(5, .ptr 5 v5 0 0),(6, .ptr 6 v6 0 0)] fun rows clk=>rows 2=some ⟨0,54,9,[G9 x an ad bn bd]⟩∧rows 3=some ⟨1,54,9,[G9 y cn cd dn dd]⟩∧rows 5=some ⟨v5,52,4,[[.bool (decide (ln<0)),us (aI LL ln.natAbs), .bool (decide (ld<0)),us (aI LL ld.natAbs)]]⟩∧rows 6=some ⟨v6,52,4,[[.bool (decide (hn<0)),us (aI LL hn.natAbs), .bool (decide (hd<0)),us (aI LL hd.natAbs)]]⟩) ?_ ?_
 ·apply fH kD [2,3,5,6,42]<;>intro h
  ·have h:zd<0:=au h;rw [if_pos h]at hh;obtain⟨rfl,rfl⟩:=hh;refine bB fun K hK=>?_;exact hK _ ⟨_,ak _ [2,3,5,6],_,_,_,_,rfl,av,av,av,av⟩
  ·have h:¬zd<0:=au h;rw [if_neg h]at hh;obtain⟨rfl,rfl⟩:=hh;apply W.skip;exact⟨_,ak _ [2,3,5,6],_,_,_,_,rfl,av,av,av,av⟩
 rintro _ ⟨v5,v6,rows,clk,rfl,bE,bA,dj,gu⟩;simp only [G9]at bE bA
 by_cases hz:zl<0∧0<dg∧hs=true
 ·have B8:=hG hz.1;have hD':=hD hz.1;have hH':=hH hz.1 hz.2.1;obtain⟨z1,z2,rfl⟩:=hz;rw [hr ⟨z1,z2,rfl⟩];apply W.seq;apply lG dj gu kL
  apply kt [2,3,5,6,48]<;>intro h
  ·apply lG bE bA B8;apply bM [2,3,5,6,7];apply lE hD';simp (disch:=omega) [gw,z2,dj,gu];apply cT hH'
   apply kt [2,3,63]<;>intro h
   ·exact dS [4]
   ·simp at h
  ·exfalso;simp at h;omega
 ·have Jo:=hA hz
  refine W.fR (fun σ=>aQ σ [(2, .ptr 2 0 0 0),(3, .ptr 3 1 0 0)] fun rows clk=>rows 2=some ⟨0,54,9,[G9 x an ad bn bd]⟩∧rows 3=some ⟨1,54,9,[G9 y cn cd dn dd]⟩) ?_ ?_
  ·apply lG dj gu kL
   apply kt [2,3,5,6,48]<;>intro h
   ·have h:zl<0:=au h;have B8:=hG h;have hD':=hD h;have hH':=hH h;apply lG bE bA B8;apply bM [2,3,5,6,7]
    refine W.dx (fun σ=>aQ σ [(2, .ptr 2 0 0 0),(3, .ptr 3 1 0 0),(63, .bool false)] fun rows clk=>rows 2=some ⟨0,54,9,[G9 x an ad bn bd]⟩∧rows 3=some ⟨1,54,9,[G9 y cn cd dn dd]⟩) (fun K hK=>?_) ?_
    ·by_cases h2:0<dg
     ·have hH2:=hH' h2
      have hf:hs=false:=by
       cases hs with
       | false=>rfl
       | true=>exact absurd ⟨h,h2,rfl⟩ hz
      subst hf;apply jK hD';apply ra h2 dj gu hH2;apply (cp);refine hK _ _ (ak _ [2,3,63]) ⟨_,_,rfl,by simp [bE],by simp [bA]⟩
     ·apply jK hD';apply dB h2;refine hK _ _ (ak _ [2,3,63]) ⟨_,_,rfl,by simp [bE],by simp [bA]⟩
    rintro _ ⟨rows,clk,rfl,bE,bA⟩
    apply (dI)<;>intro h
    ·simp at h
    apply W.skip;exact⟨_,ak _ [2,3],_,_,rfl,bE,bA⟩
   ·apply W.skip;exact⟨_,ak _ [2,3],_,_,rfl,by simp [bE],by simp [bA]⟩
  rintro _ ⟨rows,clk,rfl,bE,bA⟩;simp only [G9]at bE bA;apply lG bE bA Jo;apply bM [10];exact dS [4]
end
theorem AN.om{f:ZX}(a:AN s n u f p){v:Nat}(qt:SQ v t)(huv:u<=v)(hv:v<=1000000000):aj 111 [GA f p,RT t] (ae (cr (bk f p) t)):=by
 have I:=a.I;have q1:=a.q1.mono huv;have q2:=a.q2.mono huv;have hp:=jH (x:=f.l) q1 q2 hv;have hc:=a.A.anE t
 by_cases Ce:p.1=p.2
 ·rw [decide_eq_true (by rw [Ce];exact Rat.le_refl)]at hp;have z:=cX q1.nL q1.dL qt.nL qt.dL aa (aX p.1) (aX t) ⟨q1.nL,q1.dL⟩ ⟨qt.nL,qt.dL⟩;have:=L4 hp z
  have e1:cr (bk f p) t=dc (p.1.num*(t.den:Int)) (t.num*(p.1.den:Int)):=by
   rw [hc,if_pos Ce]
   by_cases h2:p.1<t
   ·rw [if_pos h2,kK (kZ.1 (fF.2 h2))]
   ·rw [if_neg h2]
    by_cases h3:t<p.1
    ·rw [if_pos h3,kN (k8.1 (fE.2 h3))]
    ·rw [if_neg h3,j8.2 aG]
  rw [e1];exact this
 ·have bZ:p.1<p.2:=by have:=a.A.le;grind
  rw [decide_eq_false (Rat.not_le.2 bZ)]at hp;rw [hc,if_neg Ce]
  by_cases h1:t<=p.1
  ·rw [if_pos h1];have z1:=cX qt.nL qt.dL q1.nL q1.dL aa (aX t) (aX p.1) ⟨qt.nL,qt.dL⟩ ⟨q1.nL,q1.dL⟩;have z2:=cX qt.nL qt.dL q2.nL q2.dL aa (aX t) (aX p.2) ⟨qt.nL,qt.dL⟩ ⟨q2.nL,q2.dL⟩;refine rX hp z1 z2 (rY f I.ch.bz (by have:=a.hs;omega) (by have:=I.ch.hn;omega) qt hv) (zI I (by have:=a.hs;omega) q1 hv) ?_;rw [if_pos (je.2 h1)]
  ·rw [if_neg h1]
   by_cases h2:p.2<t
   ·rw [if_pos h2];have z1:=cX qt.nL qt.dL q1.nL q1.dL aa (aX t) (aX p.1) ⟨qt.nL,qt.dL⟩ ⟨q1.nL,q1.dL⟩;have z2:=cX qt.nL qt.dL q2.nL q2.dL aa (aX t) (aX p.2) ⟨qt.nL,qt.dL⟩ ⟨q2.nL,q2.dL⟩;refine rX hp z1 z2 (rY f I.ch.bz (by have:=a.hs;omega) (by have:=I.ch.hn;omega) qt hv) (zI I (by have:=a.hs;omega) q1 hv) ?_;rw [if_neg (fun h=>h1 (je.1 h)),if_pos (fE.2 h2)]
   ·rw [if_neg h2];have k:=WD I (by have:=a.hs;omega) a.A (m:=t) aG aG q1 q2 qt hv;have b1:=I.S.bI (show p.1<=t by grind)
    have e1:(if e t f=0 then 0 else if vt (aH f) t<vt (aH f) p.1 then -1 else 1:Int)=if vt (aH f) p.1=vt (aH f) t then 1 else if e t f=0 then 0 else -1:=by
     by_cases h3:e t f=0
     ·have:=I.S.root (show p.1<t by grind) h3;rw [if_pos h3,if_neg aa,if_pos h3]
     ·rw [if_neg h3]
      by_cases h4:vt (aH f) t<vt (aH f) p.1
      ·rw [if_pos h4,if_neg aa,if_neg h3]
      ·rw [if_neg h4,if_pos aa]
    rw [<-e1];exact k
noncomputable def st(f h:ZX)(p q:Rat × Rat):Nat->(Rat × Rat) × (Rat × Rat)
 | 0=>(p,q)
 | j+1=>if (st f h p q j).2.2-(st f h p q j).2.1<=(st f h p q j).1.2-(st f h p q j).1.1 then(tf f (st f h p q j).1,(st f h p q j).2)else((st f h p q j).1,tf h (st f h p q j).2)
section
variable {f h:ZX} {p q:Rat × Rat} (A:j7 f (vt (aH f)) p.1 p.2) (B:j7 h (vt (aH h)) q.1 q.2) {D D':Nat} {b:Rat} (g1:Gr D b 0 p.1) (g2:Gr D b 0 p.2) (g3:Gr D' b 0 q.1) (g4:Gr D' b 0 q.2)
include A B g1 g2 g3 g4
theorem wu:∀j,j7 f (vt (aH f)) (st f h p q j).1.1 (st f h p q j).1.2∧j7 h (vt (aH h)) (st f h p q j).2.1 (st f h p q j).2.2∧(∀t,bk f (st f h p q j).1 t↔bk f p t)∧(∀t,bk h (st f h p q j).2 t↔bk h q t)∧Gr D b j (st f h p q j).1.1∧Gr D b j (st f h p q j).1.2∧Gr D' b j (st f h p q j).2.1∧Gr D' b j (st f h p q j).2.2
 | 0=>⟨A,B,fun _=>Iff.rfl,fun _=>Iff.rfl,g1,g2,g3,g4⟩
 | j+1=>by
  obtain⟨a1,a2,a3,a4,a5,a6,a7,a8⟩:=wu j;rw [st]
  split
  ·obtain⟨b1,b2,_⟩:=ke a1;obtain⟨c1,c2⟩:=L7 (f:=f) a5 a6;exact⟨b1,a2,fun t=>(b2 t).trans (a3 t),a4,c1,c2,a7.mono aa,a8.mono aa⟩
  ·obtain⟨b1,b2,_⟩:=ke a2;obtain⟨c1,c2⟩:=L7 (f:=h) a7 a8;exact⟨a1,b1,a3,fun t=>(b2 t).trans (a4 t),a5.mono aa,a6.mono aa,c1,c2⟩
theorem WM{W:Rat}(w1:p.2-p.1<=W)(w2:q.2-q.1<=W):∀i,((st f h p q (2*i)).1.2-(st f h p q (2*i)).1.1)*2^i<=W∧((st f h p q (2*i)).2.2-(st f h p q (2*i)).2.1)*2^i<=W
 | 0=>by rw [Rat.pow_zero,Rat.mul_one,Rat.mul_one];exact⟨w1,w2⟩
 | i+1=>by
  obtain⟨h1,h2⟩:=WM w1 w2 i;have s0:=wu A B g1 g2 g3 g4 (2*i);have s1:=wu A B g1 g2 g3 g4 (2*i+1)
  have key:∀M:Rat,(st f h p q (2*i)).1.2-(st f h p q (2*i)).1.1<=M->(st f h p q (2*i)).2.2-(st f h p q (2*i)).2.1<=M->((st f h p q (2*i+2)).1.2-(st f h p q (2*i+2)).1.1)*2<=M∧((st f h p q (2*i+2)).2.2-(st f h p q (2*i+2)).2.1)*2<=M:=fun M m1 m2=>by
   have a1:=(ke s0.1).2.2.2.2;have a2:=(ke s0.2.1).2.2.2.2;have b1:=(ke s1.1).2.2.2.2;have b2:=(ke s1.2.1).2.2.2.2;have l1:=s1.1.le;have l2:=s1.2.1.le;have l3:=(ke s1.1).1.le;have l4:=(ke s1.2.1).1.le;have e2:st f h p q (2*i+2)=if (st f h p q (2*i+1)).2.2-(st f h p q (2*i+1)).2.1<=(st f h p q (2*i+1)).1.2-(st f h p q (2*i+1)).1.1 then(tf f (st f h p q (2*i+1)).1,(st f h p q (2*i+1)).2)else((st f h p q (2*i+1)).1,tf h (st f h p q (2*i+1)).2):=rfl
   have e1:st f h p q (2*i+1)=if (st f h p q (2*i)).2.2-(st f h p q (2*i)).2.1<=(st f h p q (2*i)).1.2-(st f h p q (2*i)).1.1 then(tf f (st f h p q (2*i)).1,(st f h p q (2*i)).2)else((st f h p q (2*i)).1,tf h (st f h p q (2*i)).2):=rfl
   rw [e2];generalize st f h p q (2*i+1)=t at *;generalize st f h p q (2*i)=s at *;clear e2 s0 s1 h1 h2
   split
   ·rename_i c;show((tf f t.1).2-(tf f t.1).1)*2<=M∧(t.2.2-t.2.1)*2<=M
    split at e1
    ·subst e1;dsimp only at *;exact⟨aG,aG⟩
    ·subst e1;dsimp only at *;exact⟨aG,aG⟩
   ·rename_i c;show(t.1.2-t.1.1)*2<=M∧((tf h t.2).2-(tf h t.2).1)*2<=M
    split at e1
    ·subst e1;dsimp only at *;exact⟨aG,aG⟩
    ·subst e1;dsimp only at *;exact⟨aG,aG⟩
  have hP:=eU i;have e3:W/2^i*2^i=W:=Rat.div_mul_cancel (Rat.ne_of_gt hP);have hle:∀x:Rat,x*2^i<=W->x<=W/2^i:=fun x hx=>Rat.le_of_mul_le_mul_right (by rw [e3];exact hx) hP;obtain⟨k1,k2⟩:=key (W/2^i) (hle _ h1) (hle _ h2);rw [show 2*(i+1)=2*i+2 by omega,Rat.pow_succ];have m1:=Rat.mul_le_mul_of_nonneg_right k1 (Rat.le_of_lt hP);have m2:=Rat.mul_le_mul_of_nonneg_right k2 (Rat.le_of_lt hP);rw [e3]at m1 m2;exact⟨aG,aG⟩
end
theorem aaK{V:Rat->Prop}{x y:Rat}(hU:∀s t,U s->s<=t->U t)(hx:U x)(hy:∀t,V t->y<=t)(pR:x<=y)(km:¬ ∀t,U t↔V t):cu U V = -1:=by unfold cu;refine if_pos (Classical.byContradiction fun yQ=>km fun t=>⟨fun h=>Classical.byContradiction fun h2=>yQ ⟨t,h,h2⟩,fun h=>hU x t hx ?_⟩);have:=hy t h;grind
theorem aaL{V:Rat->Prop}{x y:Rat}(hV:∀s t,V s->s<=t->V t)(hx:V x)(hy:∀t,U t->y<=t)(pR:x<=y)(km:¬ ∀t,U t↔V t):cu U V=1:=by have h1:∀t,U t->V t:=fun t h=>hV x t hx (by have:=hy t h;grind);unfold cu;rw [if_neg (fun ⟨t,h2,h3⟩=>h3 (h1 t h2))];exact if_pos (Classical.byContradiction fun yQ=>km fun t=>⟨h1 t,fun h=>Classical.byContradiction fun h2=>yQ ⟨t,h,h2⟩⟩)
theorem lo_le{f:ZX}(A:j7 f v lo hi)(h:fS v lo hi t):lo<=t:=Rat.not_lt.1 fun h2=>A.gk (.inl h2) h
theorem WN{n' u':Nat}{f h:ZX}{q:Rat × Rat}(a:AN s n u f p)(b:AN s' n' u' h q)(km:¬ ∀x,bk f p x↔bk h q x)(hp:p.1<p.2)(hq:q.1<q.2){M:Nat}(hM:64+4*(ZX.N f+ZX.N h)*(zs f+zs h+(ZX.N f+ZX.N h)+8)<=M) :
  ∃J,J<M∧((st f h p q J).1.2<=(st f h p q J).2.1∨(st f h p q J).2.2<=(st f h p q J).1.1) ∧ ∀j,j<J->¬((st f h p q j).1.2<=(st f h p q j).2.1∨(st f h p q j).2.2<=(st f h p q j).1.1):=by
 have I:=a.I;have I':=b.I;have A:=a.A;have B:=b.A;have n8:=a.n8;have m8:=b.n8;have n2:=WH I.nf A;have m2:=WH I'.nf B;have fz:=I0 I.ch.bz;have hz:=I0 I'.ch.bz;have bf:=F4 I.nf fz;have bh:=F4 I'.nf hz;have hA:∀c∈f.l,c.natAbs<=2^zs f:=fun c hc=>Nat.le_of_lt (BZ.lt fz c hc);have hB:∀c∈h.l,c.natAbs<=2^zs h:=fun c hc=>Nat.le_of_lt (BZ.lt hz c hc);obtain⟨D,_,_,g1,g2⟩:=yw (a.q1.mono (show u<=u+u' by omega)) (a.q2.mono (show u<=u+u' by omega));obtain⟨D',_,_,g3,g4⟩:=yw (b.q1.mono (show u'<=u+u' by omega)) (b.q2.mono (show u'<=u+u' by omega))
 obtain⟨z,RL,n6,Xx⟩:∃z,z<=zs f∧z<=zs h∧(z=zs f∨z=zs h):=by
  rcases Nat.le_total (zs f) (zs h)with h1 | h1
  ·exact⟨zs f,Nat.le_refl _,h1, .inl rfl⟩
  ·exact⟨zs h,h1,Nat.le_refl _, .inr rfl⟩
 have e1:=D5 n2 m2 n8 m8 RL n6;have e2:=D5 m2 n2 m8 n8 n6 RL
 have e3:(2*lk (zs f) (ZX.N f) 3 (z+2)+2*(zs f+zs h)+9<=64+4*(ZX.N f+ZX.N h)*(zs f+zs h+(ZX.N f+ZX.N h)+8))∨(2*lk (zs h) (ZX.N h) 3 (z+2)+2*(zs f+zs h)+9<=64+4*(ZX.N f+ZX.N h)*(zs f+zs h+(ZX.N f+ZX.N h)+8)):=by
  have sw:4*(ZX.N h+ZX.N f)*(zs h+zs f+(ZX.N h+ZX.N f)+8)=4*(ZX.N f+ZX.N h)*(zs f+zs h+(ZX.N f+ZX.N h)+8):=by rw [Nat.add_comm (ZX.N h),Nat.add_comm (zs h)]
  rcases Nat.le_total (zs f) (zs h)with h1 | h1
  ·have hz':z=zs f:=(by omega);subst hz'
   rcases Nat.lt_or_ge 2 (ZX.N h)with h2 | h2
   ·exact .inl (D6 n2 m2 n8 h1 (.inl h2))
   ·exact .inr (D7 n2 n8 h1 aa)
  ·have hz':z=zs h:=(by omega);subst hz'
   rcases Nat.lt_or_ge 2 (ZX.N f)with h2 | h2
   ·have:=D6 m2 n2 m8 h1 (.inl h2);rw [sw,Nat.add_comm (zs h) (zs f)]at this;exact .inr this
   ·have:=D7 (m:=ZX.N f) m2 m8 h1 aa;rw [sw,Nat.add_comm (zs h) (zs f)]at this;exact .inl this
 have sw:4*(ZX.N h+ZX.N f)*(zs h+zs f+(ZX.N h+ZX.N f)+8)=4*(ZX.N f+ZX.N h)*(zs f+zs h+(ZX.N f+ZX.N h)+8):=by rw [Nat.add_comm (ZX.N h),Nat.add_comm (zs h)]
 rw [sw]at e2;generalize 64+4*(ZX.N f+ZX.N h)*(zs f+zs h+(ZX.N f+ZX.N h)+8)=T at *;obtain⟨K,hK⟩:∃K,K=(T-1)/2-(zs f+zs h+3):=⟨_,rfl⟩
 have hi:2*(K+1+(zs f+zs h+2))<T:=aa;have k1:se (zs f) (zs h) (ZX.N f) (ZX.N h) (z+2)<=K:=aa;have k2:se (zs h) (zs f) (ZX.N h) (ZX.N f) (z+2)<=K:=aa;have k3:lk (zs f) (ZX.N f) 3 (z+2)<=K∨lk (zs h) (ZX.N h) 3 (z+2)<=K:=aa;generalize hie:K+1+(zs f+zs h+2)=i at *
 have mN:(st f h p q (2*i)).1.2<=(st f h p q (2*i)).2.1∨(st f h p q (2*i)).2.2<=(st f h p q (2*i)).1.1:=by
  refine Classical.byContradiction fun yQ=>km ?_;obtain⟨c1,c2⟩:=not_or.1 yQ;have w0:∀ {r:Rat × Rat} {y:Nat},Ab r.1 (2^(y+1))->Ab r.2 (2^(y+1))->y<=zs f+zs h->r.2-r.1<=2^(zs f+zs h+2):=fun {r y} ⟨x1,x2⟩ ⟨x3,x4⟩ hy=>by refine Rat.le_trans ?_ (BH (show y+1+1<=zs f+zs h+2 by omega));rw [Rat.pow_succ];grind
  obtain⟨w1,w2⟩:=WM A B g1 g2 g3 g4 (w0 (a.b1 hp) (a.b2 hp) aa) (w0 (b.b1 hq) (b.b2 hq) aa) i;obtain⟨s1,s2,s3,s4,_⟩:=wu A B g1 g2 g3 g4 (2*i);generalize st f h p q (2*i)=t at *;have l1:=s1.le;have l2:=s2.le
  obtain⟨S,hS,XS,hS2⟩:∃S,(S=t.1.1∨S=t.2.1)∧S<=t.1.1∧S<=t.2.1:=by
   by_cases hh:t.1.1<=t.2.1
   ·exact⟨_, .inl rfl,Rat.le_refl,hh⟩
   ·exact⟨_, .inr rfl,aG,Rat.le_refl⟩
  obtain⟨E,hE,hE1,hE2⟩:∃E,(E=t.1.2∨E=t.2.2)∧t.1.2<=E∧t.2.2<=E:=by
   by_cases hh:t.1.2<=t.2.2
   ·exact⟨_, .inr rfl,hh,Rat.le_refl⟩
   ·exact⟨_, .inl rfl,Rat.le_refl,aG⟩
  have hP:=eU (zs f+zs h+2);have nar:∀x:Rat,x*2^i<=2^(zs f+zs h+2)->x*2^(K+1)<=1:=fun x hx=>by rw [<-hie,og (K+1),<-Rat.mul_assoc]at hx;refine Rat.le_of_mul_le_mul_right ?_ hP;rw [Rat.one_mul];exact hx
  have hd:(E-S)*2^K<=1:=by have n1:=nar _ w1;have n2:=nar _ w2;have hPK:=eU K;rw [Rat.pow_succ]at n1 n2;have:E-S<=(t.1.2-t.1.1)+(t.2.2-t.2.1):=(by rcases hS with rfl | rfl<;>rcases hE with rfl | rfl<;>grind);have:=Rat.mul_le_mul_of_nonneg_right this (Rat.le_of_lt hPK);grind
  have a1:¬bk f p S:=fun hh2=>s1.gk aG ((s3 S).2 hh2);have b1:¬bk h q S:=fun hh2=>s2.gk aG ((s4 S).2 hh2);have a2:bk f p E:=(s3 E).1 (s1.up dZ hE1);have b2:bk h q E:=(s4 E).1 (s2.up dZ hE2);have yR:=(cR A).lt a1 a2;have h1:E-S<=1:=by have:=Rat.mul_le_mul_of_nonneg_left (pE K) (show 0<=E-S by grind);grind
  have bd:Ab S (2^(z+2))∧Ab E (2^(z+2)):=by
   have main:∀b:Rat,Ab b (2^(z+1))->S<b -> -b<E->Ab S (2^(z+2))∧Ab E (2^(z+2)):=fun b ⟨y1,y2⟩ y3 y4=>by have y5:=pE (z+1);rw [show z+2=z+1+1 by omega,Rat.pow_succ];generalize (2:Rat)^(z+1)=T at *;exact⟨⟨aG,aG⟩,⟨aG,aG⟩⟩
   rcases Xx with rfl | rfl
   ·exact main _ bf ((F5 I.nf A).2 a1) ((F5 I.nf A).1 a2)
   ·exact main _ bh ((F5 I'.nf B).2 b1) ((F5 I'.nf B).1 b2)
  exact aaH I.nf I'.nf I.DZ I'.DZ A B hA hB (Nat.le_refl _) (Nat.le_refl _) n8 m8 k1 k2 k3 bd.1 bd.2 a1 a2 b1 b2 hd
 obtain⟨J,hJ,hj,g9⟩:=js (fun j=>(st f h p q j).1.2<=(st f h p q j).2.1∨(st f h p q j).2.2<=(st f h p q j).1.1) (2*i+1);have Wu:J<2*i+1:=Nat.not_le.1 fun hh=>hj (2*i) aa mN;exact⟨J,aa,g9 Wu,hj⟩
def gg(x:ZX × Rat × Rat):List PV:=Po x.1.l::(tc x.2.1++tc x.2.2)
@[simp] theorem atH{x:ZX × Rat × Rat}:gg x=Po x.1.l::(tc x.2.1++tc x.2.2):=rfl
@[simp] theorem ajz:bC 9 (emap gg l)=True:=cE fun _=>rfl
@[simp] theorem ag9{v e:Nat}:da (some ⟨v,e,n,emap gg l⟩)=True:=ck fun _=>rfl
abbrev WO:PV:=.ag [.sl [], .bool false, .sl [], .bool false, .sl [], .bool false, .sl [], .bool false, .sl []]
theorem RM{f:ZX}(S:pF f (vt (aH f)))(h:vt (aH f) p.1=vt (aH f) p.2+1)(t:Rat):bk f p t↔vt (aH f) t<=vt (aH f) p.2:=by
 refine⟨fun hh=>?_,fun hh=>?_⟩
 ·rcases hh with hh | ⟨_,hh⟩
  ·exact S.bI hh
  ·omega
 ·refine .inr ⟨?_,aa⟩;refine Rat.not_le.1 fun h2=>?_;have:=S.bI h2;omega
theorem xE{v:Rat->Nat}{D:Nat}{B δ:Rat}(C:Cut v B δ):∀(k j:Nat) (lo hi:Rat),Gr D B j lo->Gr D B j hi->lo<hi->hi-lo<=δ*2^k -> ∀i,i<(Cd v k lo hi).length->v (nth (Cd v k lo hi) i).2+i+1=v lo
 | 0,j,lo,hi,g1,g2,h,hd,i,iK=>by
  rw [Cd]at iK |-
  split at iK
  ·cases iK
  ·rename_i he;rw [if_neg he];have:=C.leaf g1.b g2.b h (by rw [Rat.pow_zero,Rat.mul_one]at hd;exact hd) he;simp at iK;subst iK;show v hi+0+1=v lo;omega
 | k+1,j,lo,hi,g1,g2,h,hd,i,iK=>by
  rw [Cd]at iK |-
  by_cases he:v lo=v hi
  ·rw [if_pos he]at iK;cases iK
  ·rw [if_neg he]at iK |-
   by_cases Bw:v lo=v hi+1
   ·rw [if_pos Bw]at iK |-;simp at iK;subst iK;show v hi+0+1=v lo;omega
   ·rw [if_neg Bw]at iK |-;obtain⟨m1,m2⟩:=oh h;obtain⟨d1,d2⟩:=rT hd;have gm:=g1.A3 g2;have a:=xE C k (j+1) lo ((lo+hi)/2) (g1.mono aa) gm m1 d1;have b:=xE C k (j+1) ((lo+hi)/2) hi gm (g2.mono aa) m2 d2;obtain⟨_,l1,_⟩:=nR C k (j+1) lo ((lo+hi)/2) (g1.mono aa) gm m1 d1;have n1:=C.bI lo ((lo+hi)/2) (Rat.le_of_lt m1);generalize (lo+hi)/2=m at *;rw [length_append]at iK
    rcases Nat.lt_or_ge i (Cd v k lo m).length with h3 | h3
    ·have h4:=a i h3;rw [bJ (by rw [length_append];omega),getElem_append_left h3,<-bJ h3];exact h4
    ·have h4:=b (i-(Cd v k lo m).length) aa;rw [bJ (by rw [length_append];omega),getElem_append_right h3,<-bJ];omega
namespace kS
variable {s n:Nat} {f:ZX} (I:kS s n f)
include I
theorem RN(i:Nat)(hi:i<(BO s n f).length):vt (aH f) (nth (BO s n f) i).2+i+1=vt (aH f) (-gp f.l):=by obtain⟨δ,h1,h2,C⟩:=I.cut (s+1);exact xE C (lvl s n) 0 _ _ I.zG I.xC I.IP (I.width h2) i hi
theorem adE(x:Rat):vt (aH f) x<=vt (aH f) (-gp f.l):=by
 by_cases h:x < -gp f.l
 ·exact Nat.le_of_eq (I.S.bg (a:=x) (b := -gp f.l) ⟨1,ar,fun y _ h2=>(l9 f.c I.f0 (.inl h2)).1⟩ h)
 ·exact I.S.bI (Rat.not_lt.1 h)
theorem an9(x:Rat):vt (aH f) (gp f.l)<=vt (aH f) x:=by
 by_cases h:gp f.l<x
 ·exact Nat.le_of_eq (I.S.bg (a:=gp f.l) (b:=x) ⟨1,ar,fun y h2 _=>(l9 f.c I.f0 (.inr h2)).1⟩ h)
 ·exact I.S.bI (Rat.not_lt.1 h)
theorem Me(i:Nat)(hi:i<(BO s n f).length)(t:Rat):bk f (nth ((BO s n f).map (ex f)) i) t↔vt (aH f) t+i+1<=vt (aH f) (-gp f.l):=by obtain⟨a1,a2,a3,a4,a5,a6⟩:=I.ivs.mem _ (bo hi);have hl:=I.RN i hi;rw [mW hi];refine((mc ⟨I.S, .inr ⟨a4,a6⟩⟩).2 t).trans ?_;rw [RM I.S a6];omega
end kS
end Go.Proofs.YtiobceocpabjdaaGreat
