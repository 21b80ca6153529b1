import Derived.Test.YtiobceocpabjdaaGreatEaf
import Derived.Test.YtiobceocpabjdaaGreatEam
set_option linter.unusedSimpArgs false
set_option linter.unusedVariables false
namespace Pm
structure ZX where
 l:List Int
 c:Cn l
namespace ZX
theorem ext{x y:ZX}(h:∀t,V t x.l=V t y.l):x=y:=by
 obtain⟨x,hx⟩:=x
 obtain⟨y,hy⟩:=y
 have:=Cn.ext hx hy h
 subst this
 rfl
def of(x:List Int):ZX:=⟨aI x,Cn.cut x⟩
def K(c:Int):ZX:=of [c]
instance:Zero ZX:=⟨⟨[],Cn.nil⟩⟩
instance:One ZX:=⟨K 1⟩
instance:Add ZX:=⟨fun x y=>⟨eV x.l y.l,Cn.eV _ _⟩⟩
instance:Mul ZX:=⟨fun x y=>⟨bA x.l y.l,Cn.bA _ _⟩⟩
instance:Neg ZX:=⟨fun x=>⟨fW x.l,Cn.fW _⟩⟩
instance:Sub ZX:=⟨fun x y=>⟨dA x.l y.l,Cn.dA _ _⟩⟩
def pow(x:ZX):Nat→ZX
 | 0=>1
 | n+1=>pow x n*x
instance:HPow ZX Nat ZX:=⟨pow⟩
instance:NatCast ZX:=⟨fun n=>K n⟩
instance (n:Nat):OfNat ZX n:=⟨K n⟩
instance:IntCast ZX:=⟨fun n=>K n⟩
instance:SMul Nat ZX:=⟨fun n x=>K n*x⟩
instance:SMul Int ZX:=⟨fun n x=>K n*x⟩
variable {t:Int}
theorem XO(x:List Int):V t (of x).l=V t x:=cV x
theorem vV(c:Int):V t (K c).l=c:=by rw [K,XO];simp [V]
theorem tW:V t (0:ZX).l=0:=vV 0
theorem FH:V t (1:ZX).l=1:=vV 1
theorem lG(x y:ZX):V t (x+y).l=V t x.l+V t y.l:=o8 _ _
theorem dZ(x y:ZX):V t (x*y).l=V t x.l*V t y.l:=c7 _ _
theorem FI(x:ZX):V t (-x).l = -V t x.l:=w8 _
theorem asj(x y:ZX):V t (x-y).l=V t x.l-V t y.l:=gG _ _
theorem TR(x:ZX):∀n:Nat,V t (x^n).l=V t x.l^n
 | 0=>by show V t (1:ZX).l=_;rw [FH,Int.pow_zero]
 | n+1=>by show V t ((x^n)*x).l=_;rw [dZ,TR x n,Int.pow_succ]
theorem TS(n:Nat):V t (OfNat.ofNat n:ZX).l=n:=vV n
theorem aiC(n:Int):V t (n:ZX).l=n:=vV n
theorem TT(n:Int)(x:ZX):V t (n • x).l=n*V t x.l:=by show V t (K n*x).l=_;rw [dZ,vV]
instance:Lean.Grind.CommRing ZX where
 add_zero x:=ext fun t=>by rw [lG,tW];omega
 add_comm x y:=ext fun t=>by rw [lG,lG];omega
 add_assoc x y z:=ext fun t=>by simp only [lG];omega
 mul_assoc x y z:=ext fun t=>by simp only [dZ];grind
 mul_one x:=ext fun t=>by rw [dZ,FH];omega
 one_mul x:=ext fun t=>by rw [dZ,FH];omega
 left_distrib x y z:=ext fun t=>by simp only [dZ,lG];grind
 right_distrib x y z:=ext fun t=>by simp only [dZ,lG];grind
 zero_mul x:=ext fun t=>by rw [dZ,tW];omega
 mul_zero x:=ext fun t=>by rw [dZ,tW];omega
 pow_zero x:=ext fun t=>by rw [TR,FH,Int.pow_zero]
 pow_succ x n:=ext fun t=>by rw [dZ,TR,TR,Int.pow_succ]
 ofNat_succ n:=ext fun t=>by rw [lG,TS,TS,FH];omega
 ofNat_eq_natCast n:=rfl
 nsmul_eq_natCast_mul n x:=rfl
 neg_add_cancel x:=ext fun t=>by rw [lG,FI,tW];omega
 sub_eq_add_neg x y:=ext fun t=>by rw [asj,lG,FI];omega
 neg_zsmul n x:=ext fun t=>by rw [TT,FI,TT];grind
 zsmul_natCast_eq_nsmul n x:=rfl
 intCast_ofNat n:=rfl
 intCast_neg n:=ext fun t=>by rw [aiC,FI,aiC]
 mul_comm x y:=ext fun t=>by rw [dZ,dZ,Int.mul_comm]
def N(x:ZX):Nat:=x.l.length
theorem aE{x:ZX}:x≠0↔0<N x:=by
 constructor
 ·intro h
  rcases Nat.eq_zero_or_pos (N x)with h1 | h1
  ·exfalso
   apply h
   have:x.l = []:=List.eq_nil_of_length_eq_zero h1
   exact ext fun t=>by rw [this,tW];rfl
  ·exact h1
 ·rintro h rfl
  have:N (0:ZX)=0:=by decide
  omega
theorem abB:N (0:ZX)=0:=by decide
theorem mF{x y:ZX}(hx:x≠0)(hy:y≠0):N (x*y)=N x+N y-1:=jL x.c y.c (aE.1 hx) (aE.1 hy)
theorem rK{x y:ZX}(hx:x≠0)(hy:y≠0):x*y≠0:=by
 rw [aE,mF hx hy]
 have:=aE.1 hx
 have:=aE.1 hy
 omega
theorem rL{x y:ZX}(h:x*y=0):x=0∨y=0:=by
 by_cases hx:x=0
 ·exact .inl hx
 ·by_cases hy:y=0
  ·exact .inr hy
  ·exact absurd h (rK hx hy)
theorem XP(x y:ZX):x*y=y*x:=by grind
theorem cancel{x y z:ZX}(hz:z≠0)(h:z*x=z*y):x=y:=by
 have h1:z*(x-y)=0:=by grind
 rcases rL h1 with h2 | h2
 ·exact absurd h2 hz
 ·grind
theorem p9{c:Int}(h:c≠0):K c≠0:=fun e=>h (by
 have:=vV (t:=0) c
 rw [e,tW]at this;omega)
theorem N_K{c:Int}(h:c≠0):N (K c)=1:=by
 show(aI [c]).length=1
 rw [show aI [c] = [c]from iE h []];rfl
theorem oO(c d:Int):K c*K d=K (c*d):=ext fun t=>by rw [dZ,vV,vV,vV]
theorem k8{x:ZX}(h:N x=1):∃c,c≠0∧x=K c:=by
 obtain⟨l,hl⟩:=x
 match l,hl,h with
 | [c],hl,_ =>
  have hc:c≠0:=by
   have:=dB hl (by simp)
   simpa [lead,r7]using this
  exact⟨c,hc,ext fun t=>by rw [vV];simp [V]⟩
theorem lO{c:Int}{x y q:ZX}(hc:c≠0)(hx:x≠0)(h:K c*x=q*y):q≠0∧y≠0:=by
 have h1:=rK (p9 hc) hx
 rw [h]at h1
 constructor
 ·rintro rfl;apply h1;grind
 ·rintro rfl;apply h1;grind
theorem tX:(1:ZX)≠0:=p9 (by decide)
theorem CI:N (1:ZX)=1:=N_K (by decide)
def dv(y x:ZX):Prop:=∃c:Int,c≠0 ∧ ∃q,K c*x=q*y
theorem dv.refl(x:ZX):dv x x:=⟨1,by decide,K 1,rfl⟩
theorem dv.zero(x:ZX):dv x 0:=⟨1,by decide,0,by grind⟩
theorem dv.trans{x y z:ZX}(h1:dv x y)(h2:dv y z):dv x z:=by
 obtain⟨c,hc,q,h1⟩:=h1
 obtain⟨d,hd,r,h2⟩:=h2
 exact⟨c*d,Int.mul_ne_zero hc hd,q*r,by rw [←oO];grind⟩
theorem dv.mul_right{x y:ZX}(h:dv x y)(z:ZX):dv x (y*z):=by
 obtain⟨c,hc,q,h⟩:=h
 exact⟨c,hc,q*z,by grind⟩
theorem dv.mul_left{x y:ZX}(h:dv x y)(z:ZX):dv x (z*y):=by
 obtain⟨c,hc,q,h⟩:=h
 exact⟨c,hc,q*z,by grind⟩
theorem dv.mul{x y z w:ZX}(h1:dv x y)(h2:dv z w):dv (x*z) (y*w):=by
 obtain⟨c,hc,q,h1⟩:=h1
 obtain⟨d,hd,r,h2⟩:=h2
 exact⟨c*d,Int.mul_ne_zero hc hd,q*r,by rw [←oO];grind⟩
theorem dv.add{x y z:ZX}(h1:dv x y)(h2:dv x z):dv x (y+z):=by
 obtain⟨c,hc,q,h1⟩:=h1
 obtain⟨d,hd,r,h2⟩:=h2
 exact⟨c*d,Int.mul_ne_zero hc hd,K d*q+K c*r,by rw [←oO];grind⟩
theorem dv.D7{x y:ZX}{c:Int}(hc:c≠0)(h:dv x (K c*y)):dv x y:=by
 obtain⟨d,hd,q,h⟩:=h
 exact⟨d*c,Int.mul_ne_zero hd hc,q,by rw [←oO];grind⟩
theorem dv.nS{x y:ZX}(h:dv x y)(hy:y≠0):N x≤N y:=by
 obtain⟨c,hc,q,h⟩:=h
 obtain⟨h1,h2⟩:=lO hc hy h
 have h3:N (K c*y)=N y:=by rw [mF (p9 hc) hy,N_K hc];have:=aE.1 hy;omega
 rw [h,mF h1 h2]at h3
 have:=aE.1 h1
 omega
theorem dv.ne{x y:ZX}(h:dv x y)(hy:y≠0):x≠0:=by
 obtain⟨c,hc,q,h⟩:=h
 exact(lO hc hy h).2
theorem z8{x:ZX}(h:dv 0 x):x=0:=by
 obtain⟨c,hc,q,h⟩:=h
 have h2:K c*x=0:=by grind
 exact(rL h2).resolve_left (p9 hc)
theorem asl{c:Int}(hc:c≠0)(x:ZX):dv (K c) x:=⟨c,hc,x,by grind⟩
theorem agf{x y:ZX}(h:dv x y)(hy:y≠0)(hN:N x=N y):dv y x:=by
 obtain⟨c,hc,q,h⟩:=h
 obtain⟨h1,h2⟩:=lO hc hy h
 have h3:N (K c*y)=N y:=by rw [mF (p9 hc) hy,N_K hc];have:=aE.1 hy;omega
 rw [h,mF h1 h2]at h3
 have h4:=aE.1 h1
 have h5:=aE.1 h2
 obtain⟨d,hd,rfl⟩:=k8 (x:=q) (by omega)
 exact⟨d,hd,K c,by rw [h]⟩
theorem al9(a:ZX){b:ZX}(hb:b≠0):∃c:Int,c≠0 ∧ ∃q r,K c*a=q*b+r∧N r<N b:=by
 have h0:=aE.1 hb
 obtain⟨c1,c2⟩:=BO (b:=b.l) a.c
 refine⟨lead b.l^i4 a.l b.l,Int.pow_ne_zero (dB b.c h0),⟨_,c1⟩,⟨_,c2⟩,ext fun t=>?_,?_⟩
 ·rw [dZ,vV,lG,dZ]
  exact(abf t a.l b.l).symm
 ·have:=G5 (a:=a.l) h0
  show(yO a.l b.l).2.length<b.l.length
  have:0<b.l.length:=h0
  omega
structure qC(g a b:ZX):Prop where
 l:dv g a
 r:dv g b
 uv:∃c:Int,c≠0 ∧ ∃u v,K c*g=u*a+v*b
theorem qC.least{g a b d:ZX}(h:qC g a b)(ha:dv d a)(hb:dv d b):dv d g:=by
 obtain⟨c,hc,u,v,e⟩:=h.uv
 refine dv.D7 hc ?_
 rw [e]
 exact(ha.mul_left u).add (hb.mul_left v)
theorem qC.ne{g a b:ZX}(h:qC g a b)(ha:a≠0∨b≠0):g≠0:=by
 rintro rfl
 rcases ha with h1 | h1
 ·exact h1 (z8 h.l)
 ·exact h1 (z8 h.r)
theorem qC.zero(a:ZX):qC a a 0:=⟨dv.refl a,dv.zero a,1,by decide,1,0,by show(1:ZX)*a=_;grind⟩
theorem qC.symm{g a b:ZX}(h:qC g a b):qC g b a:=by
 obtain⟨c,hc,u,v,e⟩:=h.uv
 exact⟨h.r,h.l,c,hc,v,u,by grind⟩
theorem qC.step{g a b q r:ZX}{c:Int}(hc:c≠0)(e:K c*a=q*b+r)(h:qC g b r):qC g a b:=by
 obtain⟨d,hd,u,v,e2⟩:=h.uv
 refine⟨dv.D7 hc ?_,h.l,d,hd,v*K c,u-v*q,by grind⟩
 rw [e]
 exact(h.l.mul_left q).add h.r
theorem jA:∀(n:Nat) (a b:ZX),N b≤n → ∃g,qC g a b
 | 0,a,b,h=>by
  have:b=0:=Classical.byContradiction fun hb=>by have:=aE.1 hb;omega
  subst this
  exact⟨a,qC.zero a⟩
 | n+1,a,b,h=>by
  by_cases hb:b=0
  ·subst hb;exact⟨a,qC.zero a⟩
  ·obtain⟨c,hc,q,r,e,hr⟩:=al9 a hb
   obtain⟨g,hg⟩:=jA n b r (by omega)
   exact⟨g,hg.step hc e⟩
structure pZ(p:ZX):Prop where
 deg:2≤N p
 irr:∀d,dv d p→N d=1∨N d=N p
theorem pZ.ne{p:ZX}(h:pZ p):p≠0:=aE.2 (by have:=h.deg;omega)
theorem pZ.aiE{p a b:ZX}(hp:pZ p)(h:dv p (a*b)):dv p a∨dv p b:=by
 obtain⟨g,hg⟩:=jA _ p a (Nat.le_refl _)
 rcases hp.irr g hg.l with h1 | h1
 ·right
  obtain⟨k,hk,rfl⟩:=k8 h1
  obtain⟨c,hc,u,v,e⟩:=hg.uv
  refine dv.D7 (c:=c*k) (Int.mul_ne_zero hc hk) ?_
  have e2:K (c*k)*b=(u*b)*p+v*(a*b):=by rw [←oO];grind
  rw [e2]
  exact((dv.refl p).mul_left _).add (h.mul_left v)
 ·left
  exact(agf hg.l hp.ne h1).trans hg.r
theorem pL:∀(n:Nat) (a:ZX),N a≤n→2≤N a → ∃p,pZ p∧dv p a
 | 0,a,h,h2=>by omega
 | n+1,a,h,h2=>by
  by_cases hi:∃d,dv d a∧N d≠1∧N d≠N a
  ·obtain⟨d,hd,h3,h4⟩:=hi
   have h5:=hd.nS (aE.2 (by omega))
   have h6:=aE.1 (hd.ne (aE.2 (by omega)))
   obtain⟨p,hp,hpd⟩:=pL n d (by omega) (by omega)
   exact⟨p,hp,hpd.trans hd⟩
  ·refine⟨a,⟨h2,fun d hd=>?_⟩,dv.refl a⟩
   by_cases h3:N d=1
   ·exact .inl h3
   ·by_cases h4:N d=N a
    ·exact .inr h4
    ·exact absurd ⟨d,hd,h3,h4⟩ hi
theorem pow_succ'(p:ZX)(k:Nat):p^(k+1)=p^k*p:=rfl
theorem gO(p:ZX):p^0=1:=rfl
theorem pow_add'(p:ZX)(j:Nat):∀k,p^(j+k)=p^j*p^k
 | 0=>by rw [Nat.add_zero,gO];grind
 | k+1=>by rw [←Nat.add_assoc,pow_succ',pow_succ',pow_add' p j k];grind
theorem HW{p:ZX}(hp:p≠0):∀k:Nat,p^k≠0
 | 0=>tX
 | k+1=>rK (HW hp k) hp
theorem aiF{p:ZX}(hp:pZ p):∀k:Nat,k<N (p^k)
 | 0=>by rw [gO,CI];omega
 | k+1=>by
  rw [pow_succ',mF (HW hp.ne k) hp.ne]
  have:=aiF hp k
  have:=hp.deg
  omega
theorem ace{p:ZX}{j k:Nat}(h:j≤k):dv (p^j) (p^k):=by
 obtain⟨d,rfl⟩:=Nat.exists_eq_add_of_le h
 rw [pow_add']
 exact(dv.refl _).mul_right _
theorem XQ{p a:ZX}(hp:pZ p)(ha:a≠0):∃k,dv (p^k) a∧¬dv (p^(k+1)) a:=by
 have key:∀n,(∃k,k≤n∧dv (p^k) a∧¬dv (p^(k+1)) a)∨dv (p^(n+1)) a:=by
  intro n
  induction n with
  | zero =>
   by_cases h:dv (p^1) a
   ·exact .inr h
   ·exact .inl ⟨0,Nat.le_refl _,asl (by decide) a,h⟩
  | succ n ih =>
   rcases ih with ⟨k,h1,h2⟩ | ih
   ·exact .inl ⟨k,by omega,h2⟩
   ·by_cases h:dv (p^(n+2)) a
    ·exact .inr h
    ·exact .inl ⟨n+1,Nat.le_refl _,ih,h⟩
 rcases key (N a)with ⟨k,_,h⟩ | h
 ·exact⟨k,h⟩
 ·have h1:=h.nS ha
  have h2:=aiF hp (N a+1)
  omega
open Classical in
noncomputable def mu(p a:ZX):Nat:=if h:∃k,dv (p^k) a∧¬dv (p^(k+1)) a then h.choose else 0
theorem TU{p a:ZX}(hp:pZ p)(ha:a≠0):dv (p^mu p a) a∧¬dv (p^(mu p a+1)) a:=by
 have h:=XQ hp ha
 unfold mu
 rw [dif_pos h]
 exact h.choose_spec
theorem m7{p a:ZX}(hp:pZ p)(ha:a≠0){k:Nat}:k≤mu p a↔dv (p^k) a:=by
 obtain⟨h1,h2⟩:=TU hp ha
 constructor
 ·intro h;exact(ace h).trans h1
 ·intro h
  rcases Nat.lt_or_ge (mu p a) k with h3 | h3
  ·exact absurd ((ace h3).trans h) h2
  ·exact h3
theorem CJ{p a:ZX}(hp:pZ p)(ha:a≠0):∃c:Int,c≠0 ∧ ∃b,b≠0∧K c*a=b*p^mu p a∧¬dv p b:=by
 obtain⟨⟨c,hc,b,e⟩,h2⟩:=TU hp ha
 refine⟨c,hc,b,(lO hc ha e).1,e,fun h=>h2 (dv.D7 hc ?_)⟩
 rw [e,pow_succ']
 have:=h.mul (dv.refl (p^mu p a))
 rw [show p^mu p a*p=p*p^mu p a by grind]
 exact this
theorem xM{p a b:ZX}(hp:pZ p)(ha:a≠0){c:Int}(hc:c≠0){k:Nat}(e:K c*a=b*p^k)(h:¬dv p b):mu p a=k:=by
 have h1:k≤mu p a:=(m7 hp ha).2 ⟨c,hc,b,e⟩
 rcases Nat.lt_or_ge k (mu p a)with h2 | h2
 ·exfalso
  obtain⟨d,hd,r,e2⟩:=(m7 hp ha).1 h2
  apply h
  refine⟨d,hd,K c*r,ZX.cancel (HW hp.ne k) ?_⟩
  rw [pow_succ']at e2
  grind
 ·omega
theorem tY{p a b:ZX}(hp:pZ p)(ha:a≠0)(hb:b≠0):mu p (a*b)=mu p a+mu p b:=by
 obtain⟨c,hc,x,_,e1,h1⟩:=CJ hp ha
 obtain⟨d,hd,y,_,e2,h2⟩:=CJ hp hb
 refine xM (b:=x*y) hp (rK ha hb) (Int.mul_ne_zero hc hd) ?_ fun h=>?_
 ·rw [pow_add',←oO];grind
 ·rcases hp.aiE h with h3 | h3
  ·exact h1 h3
  ·exact h2 h3
theorem XR{p:ZX}(hp:pZ p){c:Int}(hc:c≠0):mu p (K c)=0:=by
 refine xM (b:=K c) (c:=1) hp (p9 hc) (by decide) (by rw [gO];show(1:ZX)*K c=_;grind) fun h=>?_
 have:=h.nS (p9 hc)
 rw [N_K hc]at this
 have:=hp.deg
 omega
theorem TV{p a b:ZX}(hp:pZ p)(hb:b≠0)(h:dv a b):mu p a≤mu p b:=(m7 hp hb).2 (((m7 hp (h.ne hb)).1 (Nat.le_refl _)).trans h)
theorem aiG{p a b q:ZX}(hp:pZ p){c:Int}(hc:c≠0)(ha:a≠0)(e:K c*a=q*b):mu p a=mu p q+mu p b:=by
 obtain⟨h1,h2⟩:=lO hc ha e
 rw [←tY hp h1 h2,←e,tY hp (p9 hc) ha,XR hp hc];omega
theorem L2:∀(n:Nat) (a b:ZX),N a≤n→a≠0→b≠0→(∀p,pZ p→mu p a≤mu p b)→dv a b
 | 0,a,b,hn,ha,_,_=>by have:=aE.1 ha;omega
 | n+1,a,b,hn,ha,hb,h=>by
  rcases Nat.lt_or_ge (N a) 2 with h1 | h1
  ·obtain⟨c,hc,rfl⟩:=k8 (x:=a) (by have:=aE.1 ha;omega)
   exact asl hc b
  ·obtain⟨p,hp,hpa⟩:=pL _ a (Nat.le_refl _) h1
   have h2:1≤mu p a:=(m7 hp ha).2 (by rw [show p^1=p by rw [pow_succ',gO];grind];exact hpa)
   have h3:dv p b:=by
    have:=(m7 hp hb).1 (Nat.le_trans h2 (h p hp))
    rwa [show p^1=p by rw [pow_succ',gO];grind]at this
   obtain⟨c,hc,a',ea⟩:=hpa
   obtain⟨d,hd,b',eb⟩:=h3
   obtain⟨IZ,_⟩:=lO hc ha ea
   obtain⟨AF,_⟩:=lO hd hb eb
   have h4:N (K c*a)=N a:=by rw [mF (p9 hc) ha,N_K hc];have:=aE.1 ha;omega
   have h5:dv a' b':=L2 n a' b' (by
    rw [ea,mF IZ hp.ne]at h4
    have:=hp.deg
    omega) IZ AF fun r hr=>by
    have h6:=h r hr
    rw [aiG hr hc ha ea,aiG hr hd hb eb]at h6
    omega
   refine dv.D7 hd ?_
   rw [eb]
   have h7:=h5.mul (dv.refl p)
   rw [←ea]at h7
   obtain⟨e,he,q,e3⟩:=h7
   exact⟨e,he,q*K c,by grind⟩
theorem lV{a b:ZX}(ha:a≠0)(hb:b≠0):dv a b ↔ ∀p,pZ p→mu p a≤mu p b:=⟨fun h p hp=>TV hp hb h,L2 _ a b (Nat.le_refl _) ha hb⟩
theorem qC.mu{g a b p:ZX}(h:qC g a b)(ha:a≠0)(hb:b≠0)(hp:pZ p):mu p g=min (ZX.mu p a) (ZX.mu p b):=by
 have hg:=h.ne (.inl ha)
 have h1:=TV hp ha h.l
 have h2:=TV hp hb h.r
 have h3:min (ZX.mu p a) (ZX.mu p b)≤ZX.mu p g:=(m7 hp hg).2 (h.least ((m7 hp ha).1 (Nat.min_le_left _ _)) ((m7 hp hb).1 (Nat.min_le_right _ _)))
 omega
def xN(x:List Int):List Int:=(List.range (x.length-1)).map fun i=>nth x (i+1)*((i+1:Nat):Int)
def qA:Nat→List Int→List Int
 | _,[]=>[]
 | k,a::l=>a*(k:Int)::qA (k+1) l
def W(t:Int):List Int→Int
 | []=>0
 | _::l=>V t l+t*W t l
theorem TW:∀(l:List Int) (k:Nat),qA k l=(List.range l.length).map fun i=>nth l i*((k+i:Nat):Int)
 | [],k=>rfl
 | a::l,k=>by
  rw [qA,TW l (k+1),List.length_cons,List.range_succ_eq_map,List.map_cons,List.map_map]
  congr 1
  refine List.map_congr_left fun i _=>?_
  simp only [Function.comp_apply,jM]
  rw [show k+1+i=k+(i+1)by omega]
theorem FJ(a:Int)(l:List Int):xN (a::l)=qA 1 l:=by
 rw [TW,xN,List.length_cons,Nat.add_sub_cancel]
 refine List.map_congr_left fun i _=>?_
 rw [jM,show i+1=1+i by omega]
theorem yZ(t:Int):∀(l:List Int) (k:Nat),V t (qA (k+1) l)=V t (qA k l)+V t l
 | [],k=>by simp [qA,V]
 | a::l,k=>by
  simp only [qA,V]
  rw [yZ t l (k+1)]
  have:((k+1:Nat):Int)=(k:Int)+1:=by omega
  rw [this];grind
theorem CK(t:Int):∀l:List Int,V t (qA 1 l)=V t l+t*W t l
 | []=>by simp [qA,V,W]
 | b::m=>by
  rw [qA]
  simp only [V,W]
  rw [yZ,CK t m]
  rw [show((1:Nat):Int)=1 from rfl]
  grind
theorem ama(t:Int):∀x:List Int,V t (xN x)=W t x
 | []=>rfl
 | a::l=>by rw [FJ,CK];rfl
def bS(x:ZX):ZX:=of (xN x.l)
theorem L3(x:ZX):V t (bS x).l=W t x.l:=by rw [bS,XO,ama]
theorem HX(t h:Int):∀x:List Int,∃R:Int,V (t+h) x=V t x+h*W t x+h*h*R
 | []=>⟨0,by simp [V,W]⟩
 | a::l=>by
  obtain⟨R,hR⟩:=HX t h l
  refine⟨W t l+(t+h)*R,?_⟩
  simp only [V,W]
  rw [hR];grind
theorem QI{t A:Int}{z:List Int}(hA:∀h,∃R:Int,V (t+h) z=V t z+h*A+h*h*R):W t z=A:=by
 have key:∀h:Int,h≠0→h∣W t z-A:=fun h hh=>by
  obtain⟨R,hR⟩:=hA h
  obtain⟨S,hS⟩:=HX t h z
  refine⟨R-S,Int.eq_of_mul_eq_mul_left hh ?_⟩
  grind
 have h1:=key (((W t z-A).natAbs:Int)+1) (by omega)
 have h2:=Int.natAbs_dvd_natAbs.2 h1
 rcases Nat.eq_zero_or_pos (W t z-A).natAbs with h3 | h3
 ·omega
 ·have:=Nat.le_of_dvd h3 h2
  omega
theorem sF(x y:ZX):bS (x*y)=bS x*y+x*bS y:=ext fun t=>by
 rw [L3,lG,dZ,dZ,L3,L3]
 refine QI fun h=>?_
 obtain⟨R,hR⟩:=HX t h x.l
 obtain⟨S,hS⟩:=HX t h y.l
 refine⟨V t x.l*S+R*V t y.l+W t x.l*W t y.l+h*(W t x.l*S+R*W t y.l)+h*h*R*S,?_⟩
 rw [dZ,dZ,hR,hS];grind
theorem aiH(c:Int):bS (K c)=0:=ext fun t=>by
 rw [L3,tW]
 refine QI fun h=>⟨0,?_⟩
 rw [vV,vV];grind
theorem acf(c:Int)(x:ZX):bS (K c*x)=K c*bS x:=by rw [sF,aiH];grind
theorem TX:bS (1:ZX)=0:=aiH 1
theorem TY(p:ZX):∀m:Nat,bS (p^(m+1))=K ((m+1:Nat):Int)*p^m*bS p
 | 0=>by
  rw [pow_succ',sF,gO,TX]
  show _=(1:ZX)*1*bS p
  grind
 | m+1=>by
  rw [pow_succ',sF,TY p m]
  have:K ((m+1+1:Nat):Int)=K ((m+1:Nat):Int)+1:=ext fun t=>by rw [lG,vV,vV,FH];omega
  rw [this,pow_succ'];grind
theorem mG(a:ZX):N (bS a)≤N a-1:=Nat.le_trans (bU _) (by simp [xN,N])
theorem CL{a:ZX}(h:2≤N a):bS a≠0:=by
 have h1:a.l.length=N a:=rfl
 have hl:=dB a.c (by omega)
 intro h0
 have h2:nth (bS a).l (N a-2)=nth a.l (N a-1)*((N a-1:Nat):Int):=by
  show nth (aI (xN a.l)) _=_
  rw [iR,xN,c9 (by simp;omega)]
  simp only [List.getElem_map,List.getElem_range]
  rw [show N a-2+1=N a-1 by omega]
 rw [h0]at h2
 have h3:nth (0:ZX).l (N a-2)=0:=gE (by show(0:ZX).l.length≤_;exact Nat.zero_le _)
 rw [h3]at h2
 have h4:nth a.l (N a-1)=lead a.l:=by rw [lead,h1]
 rw [h4]at h2
 exact Int.mul_ne_zero hl (by omega) h2.symm
theorem pZ.QJ{p:ZX}(hp:pZ p):¬dv p (bS p):=fun h=>by
 have h1:=h.nS (CL hp.deg)
 have h2:=mG p
 have:=hp.deg
 omega
theorem CM{p a:ZX}(hp:pZ p)(ha:a≠0){m:Nat}(h:mu p a=m+1):bS a≠0∧mu p (bS a)=m:=by
 obtain⟨c,hc,b,hb,e,hn⟩:=CJ hp ha
 rw [h]at e
 have e2:K c*bS a=(bS b*p+K ((m+1:Nat):Int)*(b*bS p))*p^m:=by
  rw [←acf,e,sF,TY,pow_succ'];grind
 have YX:¬dv p (bS b*p+K ((m+1:Nat):Int)*(b*bS p)):=fun h1=>by
  have h2:dv p (K ((m+1:Nat):Int)*(b*bS p)):=by
   have h3:=h1.add ((dv.refl p).mul_left (-bS b))
   rwa [show bS b*p+K ((m+1:Nat):Int)*(b*bS p) + -bS b*p=K ((m+1:Nat):Int)*(b*bS p)by grind]at h3
  have h4:=dv.D7 (by omega) h2
  rcases hp.aiE h4 with h5 | h5
  ·exact hn h5
  ·exact hp.QJ h5
 have h6:bS a≠0:=fun h0=>by
  rw [h0]at e2
  have h7:(bS b*p+K ((m+1:Nat):Int)*(b*bS p))*p^m=0:=by rw [←e2];grind
  rcases rL h7 with h8 | h8
  ·rw [h8]at YX;exact YX (dv.zero p)
  ·exact HW hp.ne m h8
 exact⟨h6,xM hp h6 hc e2 YX⟩
theorem qC.CM{g a p:ZX}(h:qC g a (bS a))(ha:a≠0)(hp:pZ p):ZX.mu p g=ZX.mu p a-1:=by
 rcases Nat.eq_zero_or_pos (ZX.mu p a)with h1 | h1
 ·have:=TV hp ha h.l
  omega
 ·obtain⟨m,hm⟩:∃m,ZX.mu p a=m+1:=⟨ZX.mu p a-1,by omega⟩
  obtain⟨h2,h3⟩:=ZX.CM hp ha hm
  rw [h.mu ha h2 hp,h3,hm];omega
theorem QK{p:ZX}(hp:pZ p):mu p 1=0:=XR hp (by decide)
theorem qC.asm{g a b q r:ZX}{c k:Int}(hc:c≠0)(hk:k≠0)(e:K c*a=q*b+K k*r)(h:qC g b r):qC g a b:=by
 obtain⟨d,hd,u,v,e2⟩:=h.uv
 refine⟨dv.D7 hc ?_,h.l,k*d,Int.mul_ne_zero hk hd,v*K c,K k*u-v*q,by rw [←oO];grind⟩
 rw [e]
 exact(h.l.mul_left q).add (h.r.mul_left _)
theorem qC.assoc{g g' a b:ZX}(h:qC g a b)(h':qC g' a b):dv g g'∧dv g' g:=⟨h'.least h.l h.r,h.least h'.l h'.r⟩
theorem qC.congr{g a b a' b':ZX}(h:qC g a b)(h1:dv a a')(h2:dv a' a)(h3:dv b b')(h4:dv b' b):qC g a' b':=by
 obtain⟨g',hg'⟩:=jA _ a' b' (Nat.le_refl _)
 obtain⟨c,hc,u,v,e⟩:=hg'.uv
 have h5:dv g g':=hg'.least (h.l.trans h1) (h.r.trans h3)
 have h6:dv g' g:=h.least (hg'.l.trans h2) (hg'.r.trans h4)
 obtain⟨d,hd,w,e2⟩:=h6
 refine⟨h.l.trans h1,h.r.trans h3,c*d,Int.mul_ne_zero hc hd,w*u,w*v,by rw [←oO];grind⟩
end ZX
theorem L5{H t:Nat}:∀ {x:List Int},(∀c∈x,c.natAbs≤H)→(V (t:Int) x).natAbs≤H*(1+t)^x.length
 | [],_=>by simp [V]
 | a::l,h=>by
  have h1:=L5 (t:=t) (x:=l) fun c hc=>h c (by simp [hc])
  have h2:=h a (by simp)
  simp only [V]
  have h3:(a+(t:Int)*V t l).natAbs≤a.natAbs+t*(V (t:Int) l).natAbs:=by
   have:=Int.natAbs_add_le a ((t:Int)*V t l)
   rwa [Int.natAbs_mul,Int.natAbs_natCast]at this
  have h4:t*(V (t:Int) l).natAbs≤t*(H*(1+t)^l.length):=Nat.mul_le_mul_left _ h1
  have h5:H*1≤H*(1+t)^l.length:=Nat.mul_le_mul_left _ (Nat.one_le_pow _ _ (by omega))
  rw [List.length_cons,Nat.pow_succ]
  have h6:H*((1+t)^l.length*(1+t))=H*(1+t)^l.length+t*(H*(1+t)^l.length):=by grind
  omega
def XS(s:Int):List Int→List Int
 | []=>[]
 | _::l=>V s l::XS s l
theorem aiI(s t:Int):∀x:List Int,V t x=V s x+(t-s)*V t (XS s x)
 | []=>by simp [V,XS]
 | a::l=>by
  have:=aiI s t l
  simp only [V,XS]
  have h2:t*V t l=t*(V s l+(t-s)*V t (XS s l)):=by rw [←this]
  grind
theorem L6(s:Int):∀x:List Int,x ≠ [] → ∃y,XS s x=y ++ [0]∧y.length=x.length-1
 | [],h=>absurd rfl h
 | [a],_=>⟨[],by simp [XS,V],rfl⟩
 | a::b::l,_=>by
  obtain⟨y,h1,h2⟩:=L6 s (b::l) (by simp)
  refine⟨V s (b::l)::y,by rw [XS,h1];rfl,by simp at h2 ⊢;omega⟩
theorem CN{s:Nat}{M:Nat}:∀ {x:List Int},(V (s:Int) x).natAbs≤M→(∀c∈XS s x,c.natAbs≤M) → ∀c∈x,c.natAbs≤M*(1+s)
 | [],_,_,c,hc=>by cases hc
 | a::l,h0,h,c,hc=>by
  have h1:(V (s:Int) l).natAbs≤M:=h _ (by simp [XS])
  have h2:∀c∈XS s l,c.natAbs≤M:=fun c hc=>h c (by simp [XS,hc])
  rcases List.mem_cons.1 hc with rfl | hc
  ·simp only [V]at h0
   have h3:c.natAbs≤(c+(s:Int)*V s l).natAbs+s*(V (s:Int) l).natAbs:=by
    have h4:c=(c+(s:Int)*V s l)+(-((s:Int)*V s l)):=by omega
    have h5:=Int.natAbs_add_le (c+(s:Int)*V s l) (-((s:Int)*V s l))
    rw [←h4,Int.natAbs_neg,Int.natAbs_mul,Int.natAbs_natCast]at h5
    exact h5
   have h4:s*(V (s:Int) l).natAbs≤s*M:=Nat.mul_le_mul_left _ h1
   rw [Nat.mul_add,Nat.mul_one,Nat.mul_comm M s];omega
  ·exact CN h1 h2 c hc
theorem HY(K:Nat):∀(P:List Nat) (A:Nat) (x:List Int),P.Nodup→(∀p∈P,p≤K)→x.length≤P.length→(∀p∈P,(V (p:Int) x).natAbs≤A) → ∀c∈x,c.natAbs≤A*(2*(K+1))^P.length
 | [],A,x,_,_,hl,_,c,hc=>by
  have:x = []:=List.eq_nil_of_length_eq_zero (by simpa using hl)
  rw [this]at hc;cases hc
 | s::P,A,x,hd,hK,hl,hv,c,hc=>by
  have hx:x ≠ []:=fun h=>by rw [h]at hc;cases hc
  have h0:=hv s (List.mem_cons_self ..)
  obtain⟨hs,hd⟩:=List.nodup_cons.1 hd
  obtain⟨y,h1,h2⟩:=L6 s x hx
  have hy:∀t:Int,V t (XS s x)=V t y:=fun t=>by rw [h1,dU];simp [V]
  have h3:∀p∈P,(V (p:Int) y).natAbs≤2*A:=fun p hp=>by
   have h4:=aiI s (p:Int) x
   rw [hy]at h4
   have h5:=hv p (List.mem_cons_of_mem _ hp)
   have pS:p≠s:=fun h=>hs (h▸hp)
   have h6:(((p:Int)-s)*V (p:Int) y).natAbs≤2*A:=by
    have:((p:Int)-s)*V (p:Int) y=V (p:Int) x-V (s:Int) x:=by omega
    rw [this]
    omega
   rw [Int.natAbs_mul]at h6
   exact Nat.le_trans (Nat.le_mul_of_pos_left _ (by omega)) h6
  rw [List.length_cons]at hl ⊢
  have h4:=HY K P (2*A) y hd (fun p hp=>hK p (List.mem_cons_of_mem _ hp)) (by omega) h3
  have hP:1≤(2*(K+1))^P.length:=Nat.one_le_pow _ _ (by omega)
  have h5:=CN (s:=s) (M:=2*A*(2*(K+1))^P.length) (x:=x) (by
   have:A*1≤2*A*(2*(K+1))^P.length:=Nat.mul_le_mul (by omega) hP
   omega) (fun d hd=>by
   rw [h1]at hd
   rcases List.mem_append.1 hd with hd | hd
   ·exact h4 d hd
   ·simp at hd;subst hd;simp) c hc
  refine Nat.le_trans h5 ?_
  rw [Nat.pow_succ]
  have h6:A*((2*(K+1))^P.length*(2*(K+1)))=(2*A*(2*(K+1))^P.length)*(K+1):=by grind
  rw [h6]
  exact Nat.mul_le_mul_left _ (by have:=hK s (List.mem_cons_self ..);omega)
theorem CO{α:Type}(p:α→Bool):∀l:List α,(l.filter p).length+(l.filter fun x => !p x).length=l.length
 | []=>rfl
 | a::l=>by
  have:=CO p l
  cases h:p a<;>simp [h]<;>omega
theorem agh{x:List Int}(hx:aI x ≠ []){n:Nat}(hl:x.length≤n):∃P:List Nat,P.Nodup∧(∀p∈P,p≤2*n-1)∧P.length=n ∧ ∀p∈P,V (p:Int) x≠0:=by
 have h1:=CO (fun p:Nat=>decide (V (p:Int) x=0)) (List.range (2*n))
 have h2:((List.range (2*n)).filter fun p:Nat=>decide (V (p:Int) x=0)).length<n:=Nat.not_le.1 fun h=>hx (by
  have h3:=HY (2*n) ((List.range (2*n)).filter fun p:Nat=>decide (V (p:Int) x=0)) 0 x (List.nodup_range.filter _) (fun p hp=>by have:=List.mem_range.1 (List.mem_filter.1 hp).1;omega) (by omega) (fun p hp=>by have:=of_decide_eq_true (List.mem_filter.1 hp).2;rw [this];decide)
  have h4:∀l:List Int,(∀c∈l,c.natAbs≤0*(2*(2*n+1))^((List.range (2*n)).filter fun p:Nat=>decide (V (p:Int) x=0)).length)→aI l = []:=fun l=>by
   induction l with
   | nil=>intro _;rfl
   | cons a l ih =>
    intro h
    have h5:=h a (List.mem_cons_self ..)
    rw [Nat.zero_mul]at h5
    rw [aI,ih fun c hc=>h c (List.mem_cons_of_mem _ hc),if_pos ⟨rfl,by omega⟩]
  exact h4 x h3)
 rw [List.length_range]at h1
 have h3:n≤((List.range (2*n)).filter fun p:Nat => !decide (V (p:Int) x=0)).length:=by omega
 refine⟨((List.range (2*n)).filter fun p:Nat => !decide (V (p:Int) x=0)).take n,(List.take_sublist _ _).nodup (List.nodup_range.filter _),fun p hp=>?_,by rw [List.length_take];omega,fun p hp=>?_⟩
 ·have:=List.mem_range.1 (List.mem_filter.1 (List.mem_of_mem_take hp)).1;omega
 ·have:=(List.mem_filter.1 (List.mem_of_mem_take hp)).2
  simpa using this
namespace ZX
theorem acg{a w g:ZX}{h n l:Nat}(ha:a≠0)(e:a=w*g)(hH:∀d∈a.l,d.natAbs≤2^h)(hN:N a≤n)(hn:n≤2^l):∀c∈g.l,c.natAbs≤2^(h+n*(2*l+3)):=by
 intro c hc
 have hw:w≠0∧g≠0:=⟨fun h0=>ha (by rw [e,h0];grind),fun h0=>ha (by rw [e,h0];grind)⟩
 have hlen:g.l.length≤n:=by
  have h1:N a=N w+N g-1:=by rw [e,mF hw.1 hw.2]
  have h2:=aE.1 hw.1
  show N g≤n
  omega
 have ZQ:1≤n:=by have:=aE.1 ha;omega
 obtain⟨P,p1,p2,p3,p4⟩:=agh (x:=a.l) (n:=n) (by
  rw [show aI a.l=a.l from a.c]
  have:=aE.1 ha
  intro h0
  have h3:N a=a.l.length:=rfl
  rw [h3,h0]at this;simp at this) hN
 have hv:∀p∈P,(V (p:Int) g.l).natAbs≤2^h*(2^(l+1))^n:=fun p hp=>by
  have h1:V (p:Int) a.l=V (p:Int) w.l*V (p:Int) g.l:=by
   conv=>lhs;rw [e]
   rw [dZ]
  have h2:=p4 p hp
  have h3:(V (p:Int) g.l).natAbs≤(V (p:Int) a.l).natAbs:=by
   rw [h1,Int.natAbs_mul]
   have:V (p:Int) w.l≠0:=fun h0=>h2 (by rw [h1,h0,Int.zero_mul])
   exact Nat.le_mul_of_pos_left _ (by omega)
  refine Nat.le_trans h3 (Nat.le_trans (L5 hH) (Nat.mul_le_mul_left _ ?_))
  have h4:1+p≤2^(l+1):=by have:=p2 p hp;rw [Nat.pow_succ];omega
  exact Nat.le_trans (Nat.pow_le_pow_left h4 _) (Nat.pow_le_pow_right (Nat.two_pow_pos _) hN)
 have h5:=HY (2*n-1) P _ g.l p1 p2 (by omega) hv c hc
 refine Nat.le_trans h5 ?_
 rw [p3]
 have h7:2*(2*n-1+1)≤2^(l+2):=by rw [Nat.pow_add];omega
 have h8:(2*(2*n-1+1))^n≤(2^(l+2))^n:=Nat.pow_le_pow_left h7 _
 refine Nat.le_trans (Nat.mul_le_mul_left _ h8) (Nat.le_of_eq ?_)
 rw [←Nat.pow_mul,←Nat.pow_mul,←Nat.pow_add,←Nat.pow_add]
 congr 1
 grind
theorem amb{a w g:ZX}{h n:Nat}(ha:a≠0)(e:a=w*g)(hb:Bd 2 h n a.l)(hn:n+1≤2^h):Bd 2 (h+n*(2*h+5)+1) n g.l:=by
 have hw:w≠0∧g≠0:=⟨fun h0=>ha (by rw [e,h0];grind),fun h0=>ha (by rw [e,h0];grind)⟩
 refine⟨?_,fun c hc=>?_⟩
 ·have h1:N a=N w+N g-1:=by rw [e,mF hw.1 hw.2]
  have h2:=aE.1 hw.1
  have h3:N a≤n:=hb.len
  show N g≤n
  omega
 ·have h1:=acg (h:=h) (n:=n) (l:=h) ha e (fun d hd=>by
   have h1:=kC (b:=2) (by decide) d
   have h2:=u6 (b:=2) (by decide) (hb.sz d hd)
   omega) hb.len (by omega) c hc
  refine cK (by decide) (Nat.lt_of_le_of_lt h1 (Nat.pow_lt_pow_right (by decide) ?_))
  have:n*(2*h+3)≤n*(2*h+5):=Nat.mul_le_mul_left _ (by omega)
  omega
end ZX
end Pm
namespace Go.Proofs.YtiobceocpabjdaaGreat
open Go Pm
open ZX hiding N W
structure Nf(a:ZX):Prop where
 ne:a≠0
 g:bL a.l=1
 l:0<lead a.l
theorem vW{a:ZX}(h:a≠0):a.l ≠ []:=fun e=>by
 have:=aE.1 h
 have h2:ZX.N a=a.l.length:=rfl
 rw [h2,e]at this;simp at this
theorem amc(x:List Int):Cn (rF x):=Cn.cut _
def nf(a:ZX):ZX:=⟨rF a.l,amc _⟩
theorem lP:nf 0=0:=ZX.ext fun t=>rfl
theorem L7{a:ZX}(ha:a≠0):K (kL a.l)*nf a=a:=ZX.ext fun t=>by
 rw [dZ,vV]
 conv=>rhs;rw [←XC a.c (vW ha)]
 rw [cG,Int.mul_comm];rfl
theorem pM{a:ZX}(ha:a≠0):kL a.l≠0:=P8 a.c (vW ha)
theorem aiJ{a:ZX}(ha:a≠0):nf a≠0:=fun h=>ha (by rw [←L7 ha,h];grind)
theorem lH{a:ZX}(ha:a≠0):Nf (nf a):=⟨aiJ ha,afW a.c (vW ha),abV a.c (vW ha)⟩
theorem Nf.nfe{a:ZX}(h:Nf a):nf a=a:=by
 have h1:kL a.l=1:=by
  unfold kL
  rw [if_neg (by have:=h.l;omega),h.g];rfl
 have:=L7 h.ne
 rw [h1]at this
 rw [←this]
 conv=>lhs;rw [this]
 show _=(1:ZX)*_
 grind
theorem ach{c:Int}(hc:c≠0)(a:ZX):ZX.N (K c*a)=ZX.N a:=by
 by_cases ha:a=0
 ·rw [ha,show K c*(0:ZX)=0 by grind]
 ·rw [mF (p9 hc) ha,N_K hc];have:=aE.1 ha;omega
theorem vX(a:ZX):ZX.N (nf a)=ZX.N a:=by
 by_cases ha:a=0
 ·rw [ha,lP]
 ·have:=ach (pM ha) (nf a)
  rw [L7 ha]at this
  exact this.symm
theorem K_l{c:Int}(hc:c≠0)(a:ZX):(K c*a).l=a.l.map (· * c):=by
 refine Cn.ext (K c*a).c (i6 a.c hc) fun t=>?_
 rw [dZ,vV,dH,Int.mul_comm]
theorem aci{c:Int}(hc:c≠0){a:ZX}(ha:a≠0):lead (K c*a).l=c*lead a.l:=by
 have h:(K c*a).l=bA (K c).l a.l:=rfl
 have hK:(K c).l = [c]:=by show aI [c] = [c];exact iE hc []
 rw [h,w9 (K c).c a.c (by rw [hK];simp) (aE.1 ha),hK]
 rfl
theorem Nf.HZ{a b:ZX}(ha:Nf a)(hb:Nf b){c d:Int}(hc:c≠0)(hd:d≠0)(e:K c*a=K d*b):a=b:=by
 have h1:c.natAbs=d.natAbs:=by
  have h2:bL (K c*a).l=bL (K d*b).l:=by rw [e]
  rw [K_l hc,K_l hd,i7,i7,ha.g,hb.g]at h2
  omega
 have h3:c*lead a.l=d*lead b.l:=by rw [←aci hc ha.ne,←aci hd hb.ne,e]
 have h4:c=d:=by
  rcases Int.natAbs_eq_natAbs_iff.1 h1 with h5 | h5
  ·exact h5
  ·exfalso
   subst h5
   have hl:=ha.l
   have NG:=hb.l
   rcases Int.lt_or_gt_of_ne hd with h6 | h6
   ·have:=Int.mul_pos (show 0 < -d by omega) hl
    have:=Int.mul_neg_of_neg_of_pos h6 NG
    omega
   ·have:=Int.mul_neg_of_neg_of_pos (show -d<0 by omega) hl
    have:=Int.mul_pos h6 NG
    omega
 subst h4
 exact ZX.cancel (p9 hc) e
theorem agi{a b:ZX}{c d:Int}(ha:a≠0)(hc:c≠0)(hd:d≠0)(e:K c*a=K d*b):nf a=nf b:=by
 have hb:b≠0:=fun h=>by
  rw [h,show K d*(0:ZX)=0 by grind]at e
  exact rK (p9 hc) ha e
 refine Nf.HZ (lH ha) (lH hb) (c:=c*kL a.l) (d:=d*kL b.l) (Int.mul_ne_zero hc (pM ha)) (Int.mul_ne_zero hd (pM hb)) ?_
 rw [←oO,←oO]
 have h1:=L7 ha
 have h2:=L7 hb
 grind
theorem TZ(a:ZX):nf (nf a)=nf a:=by
 by_cases ha:a=0
 ·rw [ha,lP,lP]
 ·exact(lH ha).nfe
theorem FK(a:ZX):dv a (nf a)∧dv (nf a) a:=by
 by_cases ha:a=0
 ·rw [ha,lP];exact⟨dv.refl 0,dv.refl 0⟩
 ·have h:=L7 ha
  exact⟨⟨kL a.l,pM ha,1,by rw [h];grind⟩,⟨1,by decide,K (kL a.l),by rw [h];show(1:ZX)*a=a;grind⟩⟩
theorem y3{a b:ZX}(h1:dv a b)(h2:dv b a):nf a=nf b:=by
 by_cases ha:a=0
 ·subst ha;rw [z8 h1]
 ·obtain⟨c,hc,q,e⟩:=h2
  have h3:=h1.nS (fun hb=>ha (by subst hb;exact z8 ⟨c,hc,q,e⟩))
  have h4:=dv.nS ⟨c,hc,q,e⟩ ha
  obtain⟨hq,hb⟩:=lO hc ha e
  have h5:=ach hc a
  rw [e,mF hq hb]at h5
  have:=aE.1 hq
  have:=aE.1 hb
  obtain⟨d,hd,rfl⟩:=k8 (x:=q) (by omega)
  exact agi ha hc hd e
theorem Nf.one:Nf 1:=⟨tX,by decide,by decide⟩
theorem Nf.mul{a b:ZX}(ha:Nf a)(hb:Nf b):Nf (a*b):=by
 refine⟨rK ha.ne hb.ne,?_,?_⟩
 ·show bL (bA a.l b.l)=1
  rw [abU a.c b.c (vW ha.ne) (vW hb.ne),ha.g,hb.g]
 ·show 0<lead (bA a.l b.l)
  rw [w9 a.c b.c (aE.1 ha.ne) (aE.1 hb.ne)]
  exact Int.mul_pos ha.l hb.l
theorem acj{p a:ZX}(hp:pZ p)(ha:a≠0):mu p (nf a)=mu p a:=by
 conv=>rhs;rw [←L7 ha]
 rw [tY hp (p9 (pM ha)) (aiJ ha),XR hp (pM ha)];omega
theorem Nf.rM{a b:ZX}(ha:Nf a)(hb:Nf b)(h:∀p,pZ p→mu p a=mu p b):a=b:=by
 rw [←ha.nfe,←hb.nfe]
 exact y3 ((lV ha.ne hb.ne).2 fun p hp=>by have:=h p hp;omega) ((lV hb.ne ha.ne).2 fun p hp=>by have:=h p hp;omega)
theorem Nf.quo{a b:ZX}(ha:Nf a)(hb:Nf b)(h:dv b a):∃w,Nf w∧a=w*b:=by
 obtain⟨c,hc,q,e⟩:=h
 obtain⟨hq,_⟩:=lO hc ha.ne e
 refine⟨nf q,lH hq,Nf.HZ ha ((lH hq).mul hb) hc (pM hq) ?_⟩
 have:=L7 hq
 grind
theorem Nf.exact{a b w:ZX}(hb:Nf b)(e:a=w*b):exact a.l b.l=some w.l:=by
 subst e
 exact QH w.c b.c (aE.1 hb.ne)
theorem Nf.N1{a:ZX}(ha:Nf a)(h:ZX.N a≤1):a=1:=by
 obtain⟨c,hc,rfl⟩:=k8 (x:=a) (by have:=aE.1 ha.ne;omega)
 exact Nf.HZ ha Nf.one (show (1:Int)≠0 by decide) hc (by show(1:ZX)*_=K c*1;grind)
noncomputable def gz(a b:ZX):ZX:=nf (Classical.choose (jA _ a b (Nat.le_refl _)))
theorem sG(a b:ZX):∃g,qC g a b∧gz a b=nf g:=⟨_,Classical.choose_spec (jA _ a b (Nat.le_refl _)),rfl⟩
theorem T0{g a b:ZX}(h:qC g a b):gz a b=nf g:=by
 obtain⟨g',h',e⟩:=sG a b
 rw [e]
 obtain⟨h1,h2⟩:=h'.assoc h
 exact y3 h1 h2
theorem qC.aso{g g' a b:ZX}(h:qC g a b)(h1:dv g g')(h2:dv g' g):qC g' a b:=by
 obtain⟨c,hc,u,v,e⟩:=h.uv
 obtain⟨d,hd,w,e2⟩:=h1
 exact⟨h2.trans h.l,h2.trans h.r,c*d,Int.mul_ne_zero hc hd,w*u,w*v,by rw [←oO];grind⟩
theorem eS(a b:ZX):qC (gz a b) a b:=by
 obtain⟨g,h,e⟩:=sG a b
 rw [e]
 obtain⟨h1,h2⟩:=FK g
 exact qC.aso h h1 h2
theorem asp{a b:ZX}(h:a≠0∨b≠0):gz a b≠0:=(eS a b).ne h
theorem FL{a b:ZX}(h:a≠0∨b≠0):Nf (gz a b):=by
 have h0:=asp h
 obtain⟨g,h,e⟩:=sG a b
 rw [e]at h0 ⊢
 exact lH (fun hg=>h0 (by rw [hg,lP]))
theorem agj(a b:ZX):gz a b=gz b a:=by
 have h:=eS a b
 rw [T0 h.symm]
 obtain⟨g,_,e⟩:=sG a b
 rw [e,TZ]
theorem sH(a:ZX):gz a 0=nf a:=T0 (qC.zero a)
theorem L8(a:ZX):gz 0 a=nf a:=by rw [agj,sH]
theorem CP{a b a' b':ZX}(h1:dv a a')(h2:dv a' a)(h3:dv b b')(h4:dv b' b):gz a b=gz a' b':=by
 obtain⟨g,hg,e⟩:=sG a b
 rw [e,T0 (hg.congr h1 h2 h3 h4)]
theorem T1(a b:ZX):gz (nf a) b=gz a b:=CP (FK a).2 (FK a).1 (dv.refl b) (dv.refl b)
theorem QL(a b:ZX):gz a (nf b)=gz a b:=CP (dv.refl a) (dv.refl a) (FK b).2 (FK b).1
theorem H0{a b q r:ZX}{c k:Int}(hc:c≠0)(hk:k≠0)(e:K c*a=q*b+K k*r):gz a b=gz b r:=by
 obtain⟨g,hg,e2⟩:=sG b r
 rw [e2,T0 (hg.asm hc hk e)]
end Go.Proofs.YtiobceocpabjdaaGreat
namespace Go.Proofs.YtiobceocpabjdaaGreat
open Go Pm
open ZX hiding N W
open Classical in
noncomputable def qz(a b:ZX):ZX:=if h:∃w,Nf w∧a=w*b then h.choose else 0
theorem m9{a b:ZX}(ha:Nf a)(hb:Nf b)(h:dv b a):Nf (qz a b)∧a=qz a b*b:=by
 have h:=ha.quo hb h
 unfold qz
 rw [dif_pos h]
 exact h.choose_spec
theorem asq{a b w:ZX}(hb:Nf b)(hw:Nf w)(e:a=w*b):qz a b=w:=by
 have ha:Nf a:=by rw [e];exact hw.mul hb
 obtain⟨h1,h2⟩:=m9 ha hb ⟨1,by decide,w,by rw [e];show(1:ZX)*_=_;grind⟩
 refine ZX.cancel hb.ne ?_
 have:qz a b*b=w*b:=by rw [←h2,e]
 grind
theorem ack{a b:ZX}(ha:Nf a)(hb:Nf b)(h:dv b a):exact a.l b.l=some (qz a b).l:=Nf.exact hb (m9 ha hb h).2
theorem aiK{a b p:ZX}(ha:Nf a)(hb:Nf b)(h:dv b a)(hp:pZ p):mu p (qz a b)=mu p a-mu p b:=by
 obtain⟨h1,h2⟩:=m9 ha hb h
 have h3:mu p a=mu p (qz a b)+mu p b:=by
  conv=>lhs;rw [h2]
  exact tY hp h1.ne hb.ne
 omega
theorem Nf.self{a:ZX}(ha:Nf a):qz a a=1:=asq ha Nf.one (by grind)
noncomputable def gd(a:ZX):ZX:=gz a (bS a)
theorem T3{a:ZX}(ha:a≠0):Nf (gd a):=FL (.inl ha)
theorem y4(a:ZX):dv (gd a) a:=(eS a (bS a)).l
theorem aiL{a p:ZX}(ha:a≠0)(hp:pZ p):mu p (gd a)=mu p a-1:=(eS a (bS a)).CM ha hp
theorem axv{a:ZX}(h:2≤ZX.N a):ZX.N (gd a)<ZX.N a:=by
 have h1:=(eS a (bS a)).r.nS (CL h)
 have h2:=mG a
 have:ZX.N (gd a)=ZX.N (gz a (bS a)):=rfl
 omega
theorem acm:gd 1=1:=by
 unfold gd
 rw [TX,sH,Nf.one.nfe]
noncomputable def gs(a:ZX):Nat→ZX
 | 0=>a
 | k+1=>gd (gs a k)
theorem nB{a:ZX}(ha:Nf a):∀k,Nf (gs a k)
 | 0=>ha
 | k+1=>T3 (nB ha k).ne
theorem L9(a:ZX):∀k,dv (gs a k) a
 | 0=>dv.refl a
 | k+1=>(y4 _).trans (L9 a k)
theorem T4{a p:ZX}(ha:Nf a)(hp:pZ p):∀k,mu p (gs a k)=mu p a-k
 | 0=>rfl
 | k+1=>by
  show mu p (gd (gs a k))=_
  rw [aiL (nB ha k).ne hp,T4 ha hp k];omega
theorem amd{a:ZX}:∀k,ZX.N (gs a k)≤1∨ZX.N (gs a k)+k≤ZX.N a
 | 0 => .inr (Nat.le_refl _)
 | k+1=>by
  rcases amd (a:=a) k with h | h
  ·left
   show ZX.N (gz (gs a k) (bS (gs a k)))≤1
   by_cases h0:gs a k=0
   ·rw [h0,show bS (0:ZX)=0 from ZX.ext fun t=>rfl,sH,lP];decide
   ·exact Nat.le_trans ((eS _ _).l.nS h0) h
  ·rcases Nat.lt_or_ge (ZX.N (gs a k)) 2 with h2 | h2
   ·left
    show ZX.N (gz (gs a k) (bS (gs a k)))≤1
    by_cases h0:gs a k=0
    ·rw [h0,show bS (0:ZX)=0 from ZX.ext fun t=>rfl,sH,lP];decide
    ·exact Nat.le_trans ((eS _ _).l.nS h0) (by omega)
   ·right
    have:=axv h2
    show ZX.N (gd (gs a k))+(k+1)≤_
    omega
open Classical in
noncomputable def nl(a:ZX):Nat:=if h:∃m,ZX.N (gs a m)≤1 ∧ ∀k,k<m→2≤ZX.N (gs a k)then h.choose else 0
theorem vY(a:ZX):ZX.N (gs a (nl a))≤1 ∧ ∀k,k<nl a→2≤ZX.N (gs a k):=by
 have h:∃m,ZX.N (gs a m)≤1 ∧ ∀k,k<m→2≤ZX.N (gs a k):=by
  have key:∀n,(∃m,m≤n∧ZX.N (gs a m)≤1 ∧ ∀k,k<m→2≤ZX.N (gs a k)) ∨ ∀k,k≤n→2≤ZX.N (gs a k):=by
   intro n
   induction n with
   | zero =>
    rcases Nat.lt_or_ge (ZX.N (gs a 0)) 2 with h | h
    ·exact .inl ⟨0,Nat.le_refl _,by omega,fun k hk=>by omega⟩
    ·exact .inr fun k hk=>by rw [show k=0 by omega];exact h
   | succ n ih =>
    rcases ih with ⟨m,h1,h2⟩ | ih
    ·exact .inl ⟨m,by omega,h2⟩
    ·rcases Nat.lt_or_ge (ZX.N (gs a (n+1))) 2 with h | h
     ·exact .inl ⟨n+1,Nat.le_refl _,by omega,fun k hk=>ih k (by omega)⟩
     ·refine .inr fun k hk=>?_
      rcases Nat.lt_or_ge k (n+1)with h3 | h3
      ·exact ih k (by omega)
      ·rw [show k=n+1 by omega];exact h
  rcases key (ZX.N a)with ⟨m,_,h⟩ | h
  ·exact⟨m,h⟩
  ·have h1:=h (ZX.N a) (Nat.le_refl _)
   rcases amd (a:=a) (ZX.N a)with h2 | h2<;>omega
 unfold nl
 rw [dif_pos h]
 exact h.choose_spec
theorem aiM(a:ZX):nl a≤ZX.N a:=by
 rcases Nat.eq_zero_or_pos (nl a)with h | h
 ·omega
 ·have h1:=(vY a).2 (nl a-1) (by omega)
  rcases amd (a:=a) (nl a-1)with h2 | h2<;>omega
theorem acn{a:ZX}(ha:Nf a):∀j,gs a (nl a+j)=1
 | 0=>(nB ha _).N1 (vY a).1
 | j+1=>by
  show gd (gs a (nl a+j))=1
  rw [acn ha j,acm]
noncomputable def wz(a:ZX)(k:Nat):ZX:=qz (gs a k) (gs a (k+1))
theorem iV{a:ZX}(ha:Nf a)(k:Nat):Nf (wz a k)∧gs a k=wz a k*gs a (k+1):=m9 (nB ha k) (nB ha (k+1)) (y4 _)
theorem MA{a p:ZX}(ha:Nf a)(hp:pZ p)(k:Nat):mu p (wz a k)=if k<mu p a then 1 else 0:=by
 rw [wz,aiK (nB ha k) (nB ha (k+1)) (y4 _) hp,T4 ha hp,T4 ha hp]
 split<;>omega
theorem T5{a:ZX}(ha:Nf a)(k:Nat):dv (wz a (k+1)) (wz a k):=(lV (iV ha _).1.ne (iV ha _).1.ne).2 fun p hp=>by
 rw [MA ha hp,MA ha hp]
 split<;>split<;>omega
noncomputable def CQ(a:ZX)(k:Nat):ZX:=qz (wz a k) (wz a (k+1))
theorem H2{a:ZX}(ha:Nf a)(k:Nat):Nf (CQ a k)∧wz a k=CQ a k*wz a (k+1):=m9 (iV ha k).1 (iV ha (k+1)).1 (T5 ha k)
theorem asr{a p:ZX}(ha:Nf a)(hp:pZ p)(k:Nat):mu p (CQ a k)=if mu p a=k+1 then 1 else 0:=by
 rw [CQ,aiK (iV ha k).1 (iV ha (k+1)).1 (T5 ha k) hp,MA ha hp,MA ha hp]
 split<;>split<;>split<;>omega
noncomputable def fl(a:ZX):List ZX:=(List.range (nl a)).map (CQ a)
theorem aco{a p:ZX}(ha:Nf a)(hp:pZ p):mu p a≤nl a:=by
 have h:=T4 ha hp (nl a)
 have h1:=acn ha 0
 rw [Nat.add_zero]at h1
 rw [h1,QK hp]at h
 omega
noncomputable def pf(a:ZX)(c:Nat→Bool):Nat→ZX
 | 0=>1
 | k+1=>if c k then pf a c k*CQ a k else pf a c k
theorem FM{a:ZX}(ha:Nf a)(c:Nat→Bool):∀k,Nf (pf a c k)
 | 0=>Nf.one
 | k+1=>by
  rw [pf]
  split
  ·exact(FM ha c k).mul (H2 ha k).1
  ·exact FM ha c k
theorem acp{a p:ZX}(ha:Nf a)(hp:pZ p)(c:Nat→Bool):∀k,mu p (pf a c k)=if 1≤mu p a∧mu p a≤k∧c (mu p a-1)=true then 1 else 0
 | 0=>by
  rw [pf,QK hp,if_neg (by omega)]
 | k+1=>by
  have ih:=acp ha hp c k
  have hf:=asr ha hp k
  rw [pf]
  by_cases hc:c k=true
  ·rw [if_pos hc,tY hp (FM ha c k).ne (H2 ha k).1.ne,ih,hf]
   by_cases h1:mu p a=k+1
   ·rw [if_pos h1,h1,Nat.add_sub_cancel,if_neg (by omega),if_pos ⟨by omega,Nat.le_refl _,hc⟩]
   ·rw [if_neg h1]
    by_cases h2:1≤mu p a∧mu p a≤k∧c (mu p a-1)=true
    ·rw [if_pos h2,if_pos ⟨h2.1,by omega,h2.2.2⟩]
    ·rw [if_neg h2,if_neg (fun h3=>h2 ⟨h3.1,by omega,h3.2.2⟩)]
  ·rw [if_neg hc,ih]
   by_cases h1:mu p a=k+1
   ·rw [h1,Nat.add_sub_cancel,if_neg (by omega),if_neg (fun h3=>hc h3.2.2)]
   ·by_cases h2:1≤mu p a∧mu p a≤k∧c (mu p a-1)=true
    ·rw [if_pos h2,if_pos ⟨h2.1,by omega,h2.2.2⟩]
    ·rw [if_neg h2,if_neg (fun h3=>h2 ⟨h3.1,by omega,h3.2.2⟩)]
noncomputable def sz'(a:ZX):ZX:=wz a 0
theorem acq{a:ZX}(ha:Nf a):Nf (sz' a):=(iV ha 0).1
theorem acr{a p:ZX}(ha:Nf a)(hp:pZ p):mu p (sz' a)=min (mu p a) 1:=by
 rw [sz',MA ha hp]
 split<;>omega
theorem ame{a:ZX}(ha:Nf a):pf a (fun _=>true) (nl a)=sz' a:=Nf.rM (FM ha _ _) (acq ha) fun p hp=>by
 have h:=aco ha hp
 rw [acp ha hp,acr ha hp]
 by_cases h1:1≤mu p a
 ·rw [if_pos ⟨h1,h,rfl⟩];omega
 ·rw [if_neg (fun h2=>h1 h2.1)];omega
theorem MB{a:ZX}(h:ZX.N a≤1):nl a=0:=by
 rcases Nat.eq_zero_or_pos (nl a)with h1 | h1
 ·exact h1
 ·have:=(vY a).2 0 h1
  have:ZX.N (gs a 0)=ZX.N a:=rfl
  omega
def qb(h n:Nat):Nat:=h+n*(2*h+5)+1
theorem ass{a b:ZX}(ha:Nf a)(hb:Nf b)(hd:dv b a){h n:Nat}(hx:Bd 2 h n a.l)(hn:n+1≤2^h):Bd 2 (qb h n) n b.l:=by
 obtain⟨w,_,e⟩:=ha.quo hb hd
 exact amb ha.ne e hx hn
theorem acs{a b:ZX}(ha:Nf a)(hb:Nf b)(h:dv b a):dv (qz a b) a:=by
 obtain⟨_,h2⟩:=m9 ha hb h
 exact⟨1,by decide,b,by rw [ZX.XP b,←h2];show(1:ZX)*_=_;grind⟩
theorem H3{a:ZX}(ha:Nf a)(k:Nat):dv (wz a k) a:=(acs (nB ha k) (nB ha (k+1)) (y4 _)).trans (L9 a k)
theorem agk{a:ZX}(ha:Nf a)(k:Nat):dv (CQ a k) a:=(acs (iV ha k).1 (iV ha (k+1)).1 (T5 ha k)).trans (H3 ha k)
theorem agl{a:ZX}(ha:Nf a)(c:Nat→Bool)(k:Nat):dv (pf a c k) a:=(lV (FM ha c k).ne ha.ne).2 fun p hp=>by
 rw [acp ha hp]
 split<;>omega
end Go.Proofs.YtiobceocpabjdaaGreat
namespace Go.Proofs.YtiobceocpabjdaaGreat
open Go Pm
theorem CR(v:Int):sz LL v≤sz 2 v:=cK eB (Nat.lt_of_lt_of_le (kC (b:=2) (by decide) v) (Nat.pow_le_pow_left (by decide) _))
theorem XT{h n:Nat}{x:List Int}(hx:Bd 2 h n x):Bd LL h n x:=⟨hx.len,fun c hc=>Nat.le_trans (CR c) (hx.sz c hc)⟩
instance:Inhabited ZX:=⟨0⟩
abbrev BZ(h n:Nat)(a:ZX):Prop:=Bd 2 h n a.l
theorem BZ.pb{h n:Nat}{a:ZX}(b:BZ h n a)(hh:h<1099511627775)(hn:n<1099511627775):PB a.l:=PB.of (XT b) hh hn
theorem BZ.r8{h n:Nat}{a:ZX}(b:BZ h n a)(hh:h<1099511627775)(hn:n<1099511627775):mL (a.l.map iM):=(b.pb hh hn).r8
theorem y5(a:ZX):eF (a.l.map iM)=a.l:=by rw [afT];exact a.c
theorem BZ.mono{h h' n n':Nat}{a:ZX}(b:BZ h n a)(hh:h≤h')(hn:n≤n'):BZ h' n' a:=Bd.mono b hh hn
theorem BZ.nf{h n:Nat}{a:ZX}(b:BZ h n a):BZ h n (nf a):=ab4 b
theorem BZ.N{h n:Nat}{a:ZX}(b:BZ h n a):ZX.N a≤n:=Bd.len b
theorem acu{h n:Nat}{a:ZX}(b:BZ h n a)(hh:h<1099511627774)(hn:n<1099511627774)(k:Nat)(hk:k+1<a.l.length):aH env.P 164 [.int .i64 (k:Int), .rd [Po a.l]] (I (nth a.l (k+1)*((k+1:Nat):Int))):=by
 have hlen:=b.len
 have hz:=(XT b).nth (k+1)
 have o1:=tN ((k+1:Nat):Int) (by omega) (by omega)
 have S3:Sz ((k+1:Nat):Int):=Nat.lt_of_le_of_lt (cK (k:=2) eB (by rw [Int.natAbs_natCast];show k+1<4294967296^2;omega)) (by decide)
 have m1:=s8 (x:=nth a.l (k+1)) (y:=((k+1:Nat):Int)) (by show Pm.sz LL _<_;omega) S3
 have e:((k:Int)+1).toNat=k+1:=by omega
 rw [Int.natCast_add,Int.natCast_one]at o1 m1
 refine cA [(0, .int .i64 (k:Int)),(1, .rd [Po a.l])] Tryz.func164 ?_
 generalize a.l=x at *
 refine aA [0,1,3] ?_
 refine W.sd ?_
 simp (disch:=omega) [gw,e]
 refine b8 o1 ?_
 refine cI [3] m1 ?_
 exact cP
theorem pN{h n:Nat}{a:ZX}(b:BZ h n a)(hh:h<1099511627774)(hn:n<1099511627774):aH env.P 85 [Po a.l] (Po (ZX.bS a).l):=by
 have hlen:=b.len
 have hc:=fun k hk=>acu b hh hn k hk
 have hE:=qY 164 rfl [.rd [Po a.l]] rfl (a.l.length-1) (by omega) (fun k=>nth a.l (k+1)*((k+1:Nat):Int)) (fun k hk=>hc k (by omega))
 have e0:aI ((List.range (a.l.length-1)).map fun k=>nth a.l (k+1)*((k+1:Nat):Int))=(ZX.bS a).l:=rfl
 rw [e0]at hE
 generalize (ZX.bS a).l=d at *
 generalize a.l=x at *
 have e1:(if (1:Int)<(x.length:Int)then(x.length:Int)-1 else 0)=((x.length-1:Nat):Int):=by split<;>omega
 refine cA [(0,Po x)] Tryz.func85 ?_
 refine aA [1] ?_
 refine W.sr ?_
 simp (disch:=omega) [gw,e1]
 refine cI [2] hE ?_
 exact cP
theorem QM{α:Type}{g:α→List PV}{l:List α}{c:Int}{d:List Int}(h1:aH env.P 137 [aJ g l] (.fG [I c,Po d])):aH env.P 140 [aJ g l] (Po d):=by
 refine cA [(0,aJ g l)] Tryz.func140 ?_
 refine aA [0] ?_
 refine aY [4] h1 ?_
 refine aA [2] ?_
 exact cP
theorem sI{h n:Nat}{a:ZX}(b:BZ h n a)(hh:h<1099511627774)(hn:n<1099511627774):aH env.P 140 [Po a.l] (Po (nf a).l):=by
 have h1:=s9 (a.l.map iM) (b.r8 (by omega) (by omega)) (s:=h) (n:=n) (by rw [bK];exact XT b) hh hn
 rw [y5,←eT]at h1
 exact QM h1
theorem agm{h h' n:Nat}{a c:ZX}(b:BZ h n a)(b':BZ h' n c)(ha:Nf a)(hc:Nf c)(hd:ZX.dv c a)(hB:h+n*(h'+n+1)+h'+n+n+10<1099511627774):aH env.P 141 [Po a.l,Po c.l] (Po (qz a c).l):=by
 have h0:¬c.l = []:=vW hc.ne
 have h1:=XB (a.l.map iM) (c.l.map iM) (b.r8 (by omega) (by omega)) (b'.r8 (by omega) (by omega)) (s:=h) (s':=h') (N:=n) (by rw [bK];exact XT b) (by rw [bK];exact XT b') hB
 rw [y5,y5,if_neg h0,ack ha hc hd,←eT,←eT,exR]at h1
 generalize (qz a c).l=d at *
 generalize a.l=x at *
 generalize c.l=y at *
 refine cA [(0,Po x),(1,Po y)] Tryz.func141 ?_
 refine aA [0,1] ?_
 refine aY [5] h1 ?_
 refine aA [4] ?_
 exact cP
def rs(a c:ZX):ZX:=⟨LI a.l c.l,alU _ _⟩
theorem CS{x:List Int}(cx:Cn x)(hx:x ≠ []):(jQ x).map (· * (bL x:Int))=x:=by
 have hg:=cQ cx hx
 have h1:=z6 (g:=(bL x:Int)) (fun c hc=>eN x c hc)
 have h2:Cn (x.map (j1 (bL x))):=by
  have h3:x.map (j1 (bL x))=aI (x.map (j1 (bL x))):=by
   refine(List.map_inj_right (f:=fun v:Int=>v*(bL x:Int)) (fun u v e=>Int.eq_of_mul_eq_mul_right (by omega) e)).1 ?_
   rw [h1]
   refine Cn.ext cx (i6 (Cn.cut _) (by omega)) fun t=>?_
   rw [dH,cV,←dH,h1]
  exact h3.symm
 rw [jQ,show aI (x.map (j1 (bL x)))=_ from h2,h1]
theorem agn{a c:ZX}(hc:c≠0):∃(m k:Int) (q:ZX),m≠0∧k≠0∧ZX.K m*a=q*c+ZX.K k*rs a c:=by
 have h0:=ZX.aE.1 hc
 obtain⟨c1,c2⟩:=BO (b:=c.l) a.c
 have hm:lead c.l^i4 a.l c.l≠0:=Int.pow_ne_zero (dB c.c h0)
 have XU:=abQ (lead c.l) (i4 a.l c.l)
 have hr:=abR (b:=c.l) a.c
 have hV:=fun t=>abf t a.l c.l
 have hg:sg (lead c.l) (i4 a.l c.l)≠0:=fun h=>by rw [h]at XU;simp at XU
 generalize sg (lead c.l) (i4 a.l c.l)=g at *
 generalize lead c.l^i4 a.l c.l=m at *
 have hl:(rs a c).l=jQ (aL (yO a.l c.l).2 g):=hr
 generalize rs a c=R at *
 generalize (yO a.l c.l).1=q at *
 generalize (yO a.l c.l).2=r at *
 have hcp:Cn (aL r g):=Cn.aL _ _
 by_cases hz:aL r g = []
 ·refine⟨m,1,⟨q,c1⟩,hm,by decide,ZX.ext fun t=>?_⟩
  rw [hz]at hl
  have h1:V t R.l=0:=by rw [hl];rfl
  have h2:V t r=0:=by
   have h3:V t (aL r g)=0:=by rw [hz];rfl
   rw [cG]at h3
   rcases Int.mul_eq_zero.1 h3 with h4 | h4
   ·exact h4
   ·exact absurd h4 hg
  rw [ZX.dZ,ZX.vV,ZX.lG,ZX.dZ,ZX.dZ,ZX.vV,h1]
  have:=hV t
  rw [h2]at this
  show m*V t a.l=V t q*V t c.l+1*0
  omega
 ·have hgp:=cQ hcp hz
  refine⟨m,g*(bL (aL r g):Int),⟨q,c1⟩,hm,Int.mul_ne_zero hg (by omega),ZX.ext fun t=>?_⟩
  have h1:=CS hcp hz
  have h2:V t (aL r g)=V t R.l*(bL (aL r g):Int):=by
   rw [hl,←dH,h1]
  rw [cG]at h2
  rw [ZX.dZ,ZX.vV,ZX.lG,ZX.dZ,ZX.dZ,ZX.vV]
  have:=hV t
  show m*V t a.l=V t q*V t c.l+g*(bL (aL r g):Int)*V t R.l
  rw [←this]
  have h3:V t r=g*(V t r*g):=by
   have:g*(V t r*g)=V t r*(g*g):=by grind
   rw [this,XU];omega
  rw [h3,h2];grind
theorem ast{a c:ZX}(hc:c≠0):ZX.N (rs a c)<ZX.N c:=afV (ZX.aE.1 hc)
theorem iS{s n:Nat}{x:List Int}(hx:Bd 2 s n x):Bd 2 s n (jQ x):=Bd.cut ⟨by simpa using hx.len,fun c hc=>by
 simp only [List.mem_map]at hc
 obtain⟨v,hv,rfl⟩:=hc
 refine Nat.le_trans (cB (by decide) ?_) (hx.sz v hv)
 unfold j1
 split
 ·exact Int.natAbs_ediv_le_natAbs _ _
 ·simp⟩
theorem asu{s s' n:Nat}{a c:ZX}(ha:BZ s n a)(hb:BZ s' n c)(hc:c≠0):BZ (s+(ZX.N a+1-ZX.N c)*(s'+n+1)) n (rs a c):=by
 have h0:=ZX.aE.1 hc
 have hl:=ast (a:=a) hc
 have hk:i4 a.l c.l≤n:=by
  have h1:=ha.N
  have h2:i4 a.l c.l=ZX.N a+1-ZX.N c:=rfl
  omega
 obtain⟨_,h2⟩:=abe (B:=2) (by decide) hb (i4 a.l c.l) s [] a.l hk ⟨by simp,fun c hc=>by cases hc⟩ (ha.mono (Nat.le_refl _) (by omega))
 have h3:Bd 2 (s+i4 a.l c.l*(s'+n+1)) (n+n) (LI a.l c.l):=by
  unfold LI
  split
  ·exact iS (Bd.fW h2)
  ·exact iS h2
 have h4:=hb.N
 have h5:ZX.N (rs a c)=(LI a.l c.l).length:=rfl
 exact⟨by show(LI a.l c.l).length≤n;omega,fun d hd=>h3.sz d hd⟩
theorem acv{d:Nat}(h:1≤d):d+2≤4^d:=by
 obtain⟨k,rfl⟩:∃k,d=k+1:=⟨d-1,by omega⟩
 clear h
 induction k with
 | zero=>decide
 | succ k ih=>rw [Nat.pow_succ];omega
def zO(C n s:Nat)(a c:ZX):Prop:=if ZX.N c<ZX.N a then(s+n+1)*4^ZX.N a≤C else(s+n+1)*2*4^ZX.N c≤C
theorem zO.le{C n s:Nat}{a c:ZX}(h:zO C n s a c):s+n+1≤C:=by
 unfold zO at h
 split at h
 ·exact Nat.le_trans (Nat.le_mul_of_pos_right _ (Nat.pow_pos (by decide))) h
 ·refine Nat.le_trans ?_ h
  rw [Nat.mul_assoc]
  exact Nat.le_mul_of_pos_right _ (Nat.mul_pos (by decide) (Nat.pow_pos (by decide)))
theorem zO.step{C n s:Nat}{a c r:ZX}(h:zO C n s a c)(hr:ZX.N r<ZX.N c):zO C n (s+(ZX.N a+1-ZX.N c)*(s+n+1)) c r:=by
 unfold zO at h ⊢
 rw [if_pos hr]
 generalize hT:s+n+1=T at *
 have e:s+(ZX.N a+1-ZX.N c)*T+n+1=(ZX.N a+1-ZX.N c+1)*T:=by
  rw [Nat.add_mul,Nat.one_mul];omega
 rw [e]
 split at h
 ·rename_i h1
  obtain⟨d,hd⟩:∃d,ZX.N a=ZX.N c+d:=⟨ZX.N a-ZX.N c,by omega⟩
  have h2:=acv (d:=d) (by omega)
  rw [hd,Nat.pow_add]at h
  have h3:(ZX.N a+1-ZX.N c+1)*T≤4^d*T:=Nat.mul_le_mul_right _ (by omega)
  refine Nat.le_trans (Nat.mul_le_mul_right _ h3) ?_
  have:4^d*T*4^ZX.N c=T*(4^ZX.N c*4^d):=by grind
  omega
 ·rename_i h1
  refine Nat.le_trans (Nat.mul_le_mul_right _ (Nat.mul_le_mul_right T (show ZX.N a+1-ZX.N c+1≤2 by omega))) ?_
  rw [Nat.mul_comm 2 T];exact h
theorem acw{s n C:Nat}{a c:ZX}(b:BZ s n a)(b':BZ s n c)(hP:zO C n s (nf a) (nf c))(hB:(n+1)*C≤99000000000):aH env.P 142 [Po a.l,Po c.l] (Po (gz a c).l):=by
 have hC:C≤99000000000:=Nat.le_trans (Nat.le_mul_of_pos_left C (by omega)) hB
 rw [Nat.succ_mul]at hB
 have hs:=hP.le
 have p1:=sI b (by omega) (by omega)
 have p2:=sI b' (by omega) (by omega)
 have b1:=b.nf
 have b2:=b'.nf
 have hg:gz (nf a) (nf c)=gz a c:=by rw [T1,QL]
 rw [←hg]
 generalize oF:nf a=x0 at *
 generalize PJ:nf c=y0 at *
 generalize hG:gz x0 y0=G at *
 refine cA [(0,Po a.l),(1,Po c.l)] Tryz.func142 ?_
 generalize a.l=al at *
 generalize c.l=cl at *
 refine aA [0,1] ?_
 refine j4 ?_
 refine b8 p1 ?_
 refine cI [0,1] p2 ?_
 refine W.seq ?_
 refine W.block ?_
 refine W.a8 (fun k σ=>∃(x y:ZX) (s:Nat) (rows:Pm.Rows) (clk:Nat),σ=⟨fa [(0,Po x.l),(1,Po y.l)],rows,clk⟩∧BZ s n x∧BZ s n y∧zO C n s x y∧gz x y=G∧k=ZX.N y) (ZX.N y0) ?_ ?_
 ·exact⟨_, .refl,x0,y0,s,_,_,rfl,b1,b2,hP,hG,rfl⟩
 rintro k _ ⟨x,y,s,rows,clk,rfl,bx,nR,hp,hgz,rfl⟩
 have hs:=hp.le
 have hlx:=bx.len
 have hly:=nR.len
 refine aM [0,1,13] ?_
 refine bP ?_ ?_<;>intro h
 ·have hy:y≠0:=ZX.aE.2 (by show 0<y.l.length;simp at h;omega)
  obtain⟨m,k,q,hm,hk,e⟩:=agn (a:=x) hy
  have hR:=LK (x.l.map iM) (y.l.map iM) (bx.r8 (by omega) (by omega)) (nR.r8 (by omega) (by omega)) (s:=s) (s':=s) (N:=n) (by rw [bK];exact XT bx) (by rw [bK];exact XT nR) (by
   have:n*(s+n+1)≤n*C:=Nat.mul_le_mul_left n hs
   omega)
  rw [y5,y5,if_neg (vW hy),←eT,←eT,show LI x.l y.l=(rs x y).l from rfl]at hR
  have br:=asu bx nR hy
  have hN:=ast (a:=x) hy
  have WR:=hp.step hN
  have tF:=H0 hm hk e
  refine W.skip ?_
  refine W.block ?_
  refine aY [1,5] hR ?_
  refine W.b9 (fun K hK=>?_)
  simp (disch:=omega) [gw]
  refine hK _ ⟨ZX.N (rs x y),_,aC _ [0,1],hN,y,rs x y,_,_,_,rfl,nR.mono (by omega) (Nat.le_refl _),br,WR,by rw [←tF,hgz],rfl⟩
 ·have hy:y=0:=by
   refine Classical.byContradiction fun h0=>?_
   have h1:=ZX.aE.1 h0
   have h2:ZX.N y=y.l.length:=rfl
   simp at h;rw [h2,h]at h1;simp at h1
  subst hy
  rw [sH]at hgz
  have p3:=sI bx (by omega) (by omega)
  rw [hgz]at p3
  refine eJ ?_
  refine aY [4] p3 ?_
  exact cP
theorem T6{s n C:Nat}{a c:ZX}(b:BZ s n a)(b':BZ s n c)(hP:zO C n s (nf a) (nf c))(hn:n≤20)(hC:C≤4500000000):aH env.P 142 [Po a.l,Po c.l] (Po (gz a c).l):=
 acw b b' hP (Nat.le_trans (Nat.mul_le_mul (show n+1≤21 by omega) hC) (by decide))
def zp(a:ZX):List PV:=[Po a.l]
@[simp] theorem axw{a:ZX}:zp a = [Po a.l]:=rfl
@[simp] theorem aoJ{l:List ZX}:bM 1 (emap zp l)=True:=cN fun _=>rfl
@[simp] theorem axx{l:List ZX}{a:ZX}:emap zp l ++ [[aJ ie a.l]]=emap zp (l ++ [a]):=by simp [emap]
@[simp] theorem amg{v e n:Nat}{l:List ZX}:cX (some ⟨v,e,n,emap zp l⟩)=True:=b7 fun _=>rfl
theorem BZ.bS{h n:Nat}{a:ZX}(b:BZ h n a)(hn:n≤31):BZ (h+5) n (ZX.bS a):=Bd.cut ⟨by have:=b.len;simp [ZX.xN];omega,fun c hc=>by
 simp only [ZX.xN,List.mem_map,List.mem_range]at hc
 obtain⟨i,hi,rfl⟩:=hc
 have:=b.len
 exact cE (by decide) (b.nth _) (cK (k:=5) (by decide) (by rw [Int.natAbs_natCast];show i+1<32;omega))⟩
theorem ago{h n:Nat}{a:ZX}(b:BZ h n a)(hn:n<1099511627776):aH env.P 83 [Po a.l] (.int .i64 ((ZX.N a:Int)-1)):=mC a.l (by have:=b.len;omega)
structure wR(s n:Nat)(a:ZX):Prop where
 bz:BZ s n a
 hn:n≤20
 hs:n+1≤2^s
 hC:(qb s n+n+6)*4^n≤4500000000
theorem wR.y6{s n:Nat}{a:ZX}(h:wR s n a):qb s n+n+6≤4500000000:=Nat.le_trans (Nat.le_mul_of_pos_right _ (Nat.pow_pos (by decide))) h.hC
theorem wR.dv{s n:Nat}{a c:ZX}(h:wR s n a)(ha:Nf a)(hc:Nf c)(hd:ZX.dv c a):BZ (qb s n) n c:=ass ha hc hd h.bz h.hs
theorem wR.nfz{s n:Nat}{a:ZX}(h:wR s n a):wR s n (nf a):=⟨h.bz.nf,h.hn,h.hs,h.hC⟩
theorem wR.gdz{s n:Nat}{a c:ZX}(h:wR s n a)(ha:Nf a)(hc:Nf c)(hd:ZX.dv c a):aH env.P 142 [Po c.l,Po (ZX.bS c).l] (Po (gd c).l)∧aH env.P 85 [Po c.l] (Po (ZX.bS c).l)∧aH env.P 141 [Po c.l,Po (gd c).l] (Po (qz c (gd c)).l):=by
 have b:=h.dv ha hc hd
 have b2:=b.bS (by have:=h.hn;omega)
 have hq:=h.y6
 have hn:=h.hn
 have bg:=h.dv ha (T3 hc.ne) ((y4 c).trans hd)
 refine⟨T6 (s:=qb s n+5) (b.mono (by omega) (Nat.le_refl _)) b2 ?_ h.hn (C:=4500000000) (Nat.le_refl _),pN b (by omega) (by omega),agm b bg hc (T3 hc.ne) (y4 c) (by
  have:n*(qb s n+n+1)≤20*4500000000:=Nat.mul_le_mul hn (by omega)
  omega)⟩
 have hN:=ZX.mG c
 have h1:ZX.N c≤n:=b.N
 have h2:=ZX.aE.1 hc.ne
 unfold zO
 rw [vX,vX,if_pos (by omega)]
 refine Nat.le_trans (Nat.mul_le_mul (show qb s n+5+n+1≤qb s n+n+6 by omega) (Nat.pow_le_pow_right (by decide) h1)) h.hC
theorem nT(f:Nat→ZX){m i:Nat}(h:i<m):nth ((List.range m).map f) i=f i:=by
 rw [c9 (by simpa using h)];simp
noncomputable def CT(L:List ZX):ZX:=L.foldl gz 0
theorem agp(L:List ZX)(hL:L.length<1099511627776)(h2:∀i,i<L.length→aH env.P 142 [Po (CT (L.take i)).l,Po (nth L i).l] (Po (CT (L.take (i+1))).l)):aH env.P 194 [aJ zp L] (Po (CT L).l):=by
 refine cA [(0,aJ zp L)] Tryz.func194 ?_
 refine aA [0] ?_
 refine aA [0,3] ?_
 refine W.KB 3 (Po (CT (L.take 0)).l) (by simp) rfl (fun K hK=>?_)
 refine W.lw [0,3] hK ?_;clear hK K;simp
 refine aM [3,6,7,8] ?_
 refine W.block ?_
 refine W.a8 (fun k σ=>∃(i:Nat) (rows:Pm.Rows) (clk:Nat),σ=⟨fa [(3,Po (CT (L.take i)).l),(6,aJ zp L),(7, .int .i64 L.length),(8, .int .i64 i)],rows,clk⟩∧i+k=L.length) L.length ?_ ?_
 ·exact⟨_, .refl,0,_,_,by simp;exact⟨rfl,rfl⟩,by omega⟩
 rintro k _ ⟨i,rows,clk,rfl,KX⟩
 refine cC [3,6,7,8,9] ?_
 refine bP ?_ ?_<;>intro h
 ·have hi:i<L.length:=by simp at h;omega
  have ht:=h2 i hi
  generalize tF:CT (L.take (i+1))=g2 at *
  generalize CT (L.take i)=g at *
  refine iT ?_
  refine aA [3,5,6,7,8] ?_
  refine W.b9 (fun K hK=>?_)
  simp (disch:=omega) [gw]
  refine b8 ht ?_
  refine W.lw [3,6,7,8] hK ?_;clear hK K;simp
  refine W.b9 (fun K hK=>?_);simp (disch:=omega) [gw]
  subst tF
  refine hK _ ⟨k-1,_,aC _ [3,6,7,8],by omega,i+1,_,_,rfl,by omega⟩
 ·have hi:i=L.length:=by simp at h;omega
  subst hi
  rw [List.take_length]
  refine eJ ?_
  refine aA [2] ?_
  exact cP
noncomputable def sq(a:ZX):ZX:=if ZX.N a≤1 then nf a else sz' (nf a)
theorem MC{α:Type}{g:α→List PV}{l:List α}{s n:Nat}{a:ZX}(h:wR s n a)(p1:aH env.P 140 [aJ g l] (Po (nf a).l)):aH env.P 70 [aJ g l] (Po (sq a).l):=by
 have hqb:=h.y6
 have hn:=h.hn
 have hA:=h.nfz
 have axy:=ago hA.bz (by omega)
 have hsq:sq a=if ZX.N (nf a)≤1 then nf a else sz' (nf a):=by rw [vX];rfl
 have nA:2≤ZX.N (nf a)→Nf (nf a):=fun h2=>lH fun h0=>by rw [h0,lP]at h2;revert h2;decide
 rw [hsq]
 generalize nf a=A at *
 refine cA [(0,aJ g l)] Tryz.func70 ?_
 refine aA [0] ?_
 refine aY [0] p1 ?_
 refine W.seq ?_
 refine aY [0,7] axy ?_
 refine W.cond ⟨_,rfl,fun h3=>?_,fun h3=>?_⟩
 ·have h2:ZX.N A≤1:=by simp at h3;omega
  rw [if_pos h2]
  refine aA [2] ?_
  exact cP
 ·have h2:2≤ZX.N A:=by simp at h3;omega
  obtain⟨t1,t2,t3⟩:=hA.gdz (nA h2) (nA h2) (ZX.dv.refl A)
  rw [if_neg (by omega),show sz' A=qz A (gd A)from rfl]
  generalize (gd A).l=g1 at *
  refine W.skip ?_
  refine j4 ?_
  refine b8 t2 ?_
  refine b8 t1 ?_
  refine cI [2] t3 ?_
  exact cP
theorem CU{s n:Nat}{a:ZX}(h:wR s n a):aH env.P 70 [Po a.l] (Po (sq a).l):=by
 have hqb:=h.y6
 have hn:=h.hn
 exact MC h (sI h.bz (by unfold qb at hqb;omega) (by omega))
@[simp] theorem XV:([]:List Int).length=0:=rfl
theorem mH{h n:Nat}{a:ZX}(b:BZ h n a)(h1:1≤h)(hh:h≤YY)(hn:n<1099511627776):aH env.P 78 [PI a.l] (PI (nf a).l):=by
 have hP:=CD a.l b a.c h1 hh hn
 have e:rF a.l=(nf a).l:=rfl
 rw [e]at hP
 generalize kL a.l=c at *
 generalize (nf a).l=d at *
 generalize a.l=x at *
 refine cA [(0,PI x)] Tryz.func78 ?_
 refine aA [0] ?_
 refine aY [4] hP ?_
 refine aA [2] ?_
 exact cP
theorem vZ{h n:Nat}{a:ZX}(b:BZ h n a)(hh:h≤YY)(hn:n≤1000):aH env.P 160 [PI a.l] (PI (ZX.bS a).l):=by
 have hlen:=b.len
 have e0:(ZX.bS a).l=aI ((List.range (a.l.length-1)).map fun k=>nth a.l (k+1)*((k:Int)+1)):=rfl
 rw [e0]
 have hz:=fun k=>b.nth k
 generalize a.l=x at *
 generalize hm:x.length-1=m at *
 refine cY (E:=env) (fun id=>if id=5 then 2 else 0) [(0,PI x)] Tryz.func160 rfl (by kernel_rfl) (by kernel_rfl) (show 1≤23 by decide) (by simp) ?_
 refine aA [0] ?_
 refine aA [0,3] ?_
 refine W.nil 3 3 31 4 (by simp) (by decide) (fun K hK=>?_)
 refine W.lw [0,3] hK ?_;clear hK K;simp
 refine aM [0,3,4] ?_
 refine W.block ?_
 refine W.a8 (fun k σ=>∃(i ver:Nat) (rows:Pm.Rows) (clk:Nat),σ=⟨fa [(0,PI x),(3, .own 3 ver 0 i),(4, .int .i64 ((i:Int)+1))],rows,clk⟩ ∧
  rows 3=some ⟨ver,31,4,emap ri ((List.range i).map fun k=>nth x (k+1)*((k:Int)+1))⟩∧i+k=m) m ?_ ?_
 ·exact⟨_, .refl,0,_,_,_,rfl,by simp [emap],by omega⟩
 rintro k _ ⟨i,ver,rows,clk,rfl,hr,KX⟩
 have wQ:(emap ri ((List.range i).map fun k=>nth x (k+1)*((k:Int)+1))).length=i:=by simp [emap]
 refine aM [0,3,4,8] ?_
 refine bP ?_ ?_<;>intro h
 ·have hi:i+1<x.length:=by simp at h;omega
  have o1:=LB ((i:Int)+1) (by omega)
  have hzi:=hz (i+1)
  have m1:=FB (nth x (i+1)) ((i:Int)+1) (Nat.le_trans hzi hh) (Nat.le_trans (cK (k:=10) (by decide) (by show((i:Int)+1).natAbs<1024;omega)) (by decide))
  have e1:((i:Int)+1).toNat=i+1:=by omega
  have er:(List.range (i+1)).map (fun k=>nth x (k+1)*((k:Int)+1))=(List.range i).map (fun k=>nth x (k+1)*((k:Int)+1)) ++ [nth x (i+1)*((i:Int)+1)]:=by
   rw [List.range_succ,List.map_append];simp
  have axz:((List.range i).map fun k=>nth x (k+1)*((k:Int)+1)).length=i:=by simp
  generalize (List.range i).map (fun k=>nth x (k+1)*((k:Int)+1))=acc at *
  generalize hq:nth x (i+1)*((i:Int)+1)=q at *
  refine iT ?_
  refine W.BI (fun K hK=>?_)
  rw [if_pos rfl,fE]
  simp (disch:=omega) [gw,e1]
  refine b8 o1 ?_
  refine aD m1 ?_
  simp (disch:=omega) [gw,hr,axz]
  refine W.lw [0,3,4] hK ?_;clear hK K;simp
  refine W.b9 (fun K hK=>?_);simp (disch:=omega) [gw]
  refine hK _ ⟨k-1,_,aC _ [0,3,4],by omega,i+1,_,_,_,by rw [Int.natCast_add];rfl,by rw [er];simp,by omega⟩
 ·have hi:i=m:=by simp at h;omega
  subst hi
  have fF:((List.range i).map fun k=>nth x (k+1)*((k:Int)+1)).length=i:=by simp
  generalize (List.range i).map (fun k=>nth x (k+1)*((k:Int)+1))=acc at *
  have ez:=bJ fF
  refine eJ ?_
  refine W.sr ?_
  simp (disch:=omega) [gw,hr,ez]
  refine aD (oJ acc (by omega)) ?_
  simp (disch:=omega) [gw]
  refine bO [2] ?_
  exact cP
theorem MD:aH env.P 97 [.sl [[.int .i64 1]]] (PI (1:ZX).l):=HG [1] (by decide) (by decide)
def wS(l:Int):Int:=if l<0 then -1 else 1
theorem agq(l:Int):wS l*l=l.natAbs:=by unfold wS;split<;>omega
def T7(y x:List Int):List Int:=wO y (lead y).natAbs (wS (lead y)*lead x) (x.length-y.length) x
def T8(y x:List Int)(i:Nat):Int:=nth x i*((lead y).natAbs:Int)-if x.length-y.length≤i then wS (lead y)*lead x*nth y (i-(x.length-y.length))else 0
theorem acx{y x:List Int}(h:y.length≤x.length):aI ((List.range x.length).map (T8 y x))=T7 y x:=by
 refine Cn.ext (Cn.cut _) (Cn.dA _ _) fun t=>?_
 unfold T7
 rw [cV,wO,gG,cG,c7,mV]
 obtain⟨k,hk⟩:∃k,x.length=k+y.length:=⟨x.length-y.length,by omega⟩
 have e1:(List.range x.length).map (T8 y x)=(List.range x.length).map fun i=>nth x i*((lead y).natAbs:Int)+(-(if x.length-y.length≤i then wS (lead y)*lead x*nth y (i-(x.length-y.length))else 0)):=List.map_congr_left fun i _=>by unfold T8;omega
 rw [e1,rZ,gM,jK (Nat.le_refl _)]
 generalize wS (lead y)*lead x=T at *
 have e2:((List.range x.length).map fun i => -(if x.length-y.length≤i then T*nth y (i-(x.length-y.length))else 0))=List.replicate k 0++y.map fun v=>v*(-T):=by
  have hk2:x.length-y.length=k:=by omega
  rw [hk2,hk,List.range_add,List.map_append,List.map_map]
  congr 1
  ·rw [List.eq_replicate_iff]
   refine⟨by simp,fun v hv=>?_⟩
   simp only [List.mem_map,List.mem_range]at hv
   obtain⟨i,hi,rfl⟩:=hv
   rw [if_neg (by omega)];rfl
  ·have h2:=w6 (x:=y) (n:=y.length) (Nat.le_refl _)
   rw [Nat.sub_self,List.replicate_zero,List.append_nil]at h2
   conv=>rhs;rw [←h2]
   rw [List.map_map]
   refine List.map_congr_left fun i _=>?_
   simp only [Function.comp_apply]
   rw [if_pos (by omega),Nat.add_sub_cancel_left];grind
 rw [e2,dU,pY]
 have h3:=gM (t:=t) (-T) id y
 simp only [id_eq,List.map_id_fun]at h3
 rw [h3,List.length_replicate,show x.length-y.length=k by omega]
 grind
theorem sJ{y x:List Int}(hy:0<y.length)(h:y.length≤x.length):(T7 y x).length<x.length:=by
 have h1:=zY (b:=y) (r:=x) (i:=x.length-y.length) hy (by omega)
 rw [show u9 y x (x.length-y.length)=lead x from by rw [u9,if_pos (by omega)]]at h1
 have e:T7 y x=aL (wO y (lead y) (lead x) (x.length-y.length) x) (wS (lead y)):=Cn.ext (Cn.dA _ _) (Cn.aL _ _) fun t=>by
  unfold T7
  rw [cG,wO,wO,gG,gG,cG,cG,c7,c7,mV,mV,←agq]
  grind
 rw [e]
 have:=pA (wO y (lead y) (lead x) (x.length-y.length) x) (wS (lead y))
 omega
theorem acy(t:Int)(y x:List Int):((lead y).natAbs:Int)*V t x=t^(x.length-y.length)*(wS (lead y)*lead x)*V t y+V t (T7 y x):=by
 unfold T7
 rw [wO,gG,cG,c7,mV];grind
def rq(y:List Int):Nat→List Int→List Int
 | 0,x=>x
 | n+1,x=>if x.length<y.length then x else rq y n (T7 y x)
theorem ami{y x:List Int}(h:x.length<y.length):∀n,rq y n x=x
 | 0=>rfl
 | n+1=>by rw [rq,if_pos h]
theorem T9{y:List Int}(cy:Cn y)(hy:0<y.length):∀(n:Nat) (x:List Int),Cn x→x.length<n→Cn (rq y n x)∧(rq y n x).length<y.length ∧ ∃(m:Int) (q:List Int),m≠0 ∧ ∀t,m*V t x=V t q*V t y+V t (rq y n x)
 | 0,x,_,h=>by omega
 | n+1,x,cx,h=>by
  rw [rq]
  split
  ·rename_i h1
   exact⟨cx,h1,1,[],by decide,fun t=>by simp [V]⟩
  ·rename_i h1
   have hl:=sJ hy (show y.length≤x.length by omega)
   obtain⟨h2,h3,m,q,hm,h4⟩:=T9 cy hy n (T7 y x) (Cn.dA _ _) (by omega)
   have DK:=dB cy hy
   refine⟨h2,h3,m*(lead y).natAbs,eV q (aL (p8 (x.length-y.length) (wS (lead y)*lead x)) m),Int.mul_ne_zero hm (by omega),fun t=>?_⟩
   have h5:=acy t y x
   have h6:=h4 t
   rw [o8,cG,mV]
   have:m*((lead y).natAbs:Int)*V t x=m*(((lead y).natAbs:Int)*V t x):=by grind
   rw [this,h5]
   grind
theorem QN{s s' N:Nat}{y x:List Int}(nR:Bd 2 s' N y)(bx:Bd 2 s N x)(hy:0<y.length)(h:y.length≤x.length):Bd 2 (s+(s'+N+1)) N (T7 y x):=by
 have hl:=sJ hy h
 have hlx:=bx.len
 have hls:sz 2 ((lead y).natAbs:Int)≤s':=Nat.le_trans (cB (by decide) (by rw [Int.natAbs_natCast];exact Nat.le_refl _)) (gH nR)
 have hlr:sz 2 (wS (lead y)*lead x)≤s:=Nat.le_trans (cB (by decide) (by
  rw [Int.natAbs_mul]
  have:(wS (lead y)).natAbs=1:=by unfold wS;split<;>rfl
  rw [this,Nat.one_mul];exact Nat.le_refl _)) (gH bx)
 have b1:Bd 2 (s+s'+N) (max N (x.length-y.length+1+N)) (aL x ((lead y).natAbs:Int)):=(bx.aL (by decide) hls).mono (by omega) (by omega)
 have b2:Bd 2 (s+s'+N) (max N (x.length-y.length+1+N)) (bA (p8 (x.length-y.length) (wS (lead y)*lead x)) y):=((Bd.p8 hlr (x.length-y.length)).bA (by decide) nR).mono (by omega) (by omega)
 exact⟨by omega,fun c hc=>by
  have h6:=(Bd.dA (by decide) b1 b2).sz c hc
  omega⟩
theorem aiO{s' N:Nat}{y:List Int}(nR:Bd 2 s' N y)(hy:0<y.length):∀(n j s:Nat) (x:List Int),Bd 2 s N x→x.length+1≤y.length+j→Bd 2 (s+j*(s'+N+1)) N (rq y n x)
 | 0,j,s,x,bx,_=>bx.mono (by simp) (Nat.le_refl _)
 | n+1,j,s,x,bx,hj=>by
  rw [rq]
  split
  ·exact bx.mono (by simp) (Nat.le_refl _)
  ·rename_i h1
   obtain⟨i,rfl⟩:∃i,j=i+1:=⟨j-1,by omega⟩
   have hl:=sJ hy (show y.length≤x.length by omega)
   have:=aiO nR hy n i (s+(s'+N+1)) (T7 y x) (QN nR bx hy (by omega)) (by omega)
   rw [Nat.add_mul,Nat.one_mul]
   exact this.mono (by omega) (Nat.le_refl _)
theorem amj(n:Nat):RI (n:Int) = .ag [aJ aF (aU DD n), .bool false]:=by
 simp [show ¬((n:Int)<0)by omega]
set_option maxHeartbeats 2000000 in
theorem FN{s s' N:Nat}{x0 y:List Int}(bx0:Bd 2 s N x0)(nR:Bd 2 s' N y)(cx0:Cn x0)(cy:Cn y)(PJ:0<y.length)(hN:N≤1000)(hB:s+(x0.length+1-y.length+1)*(s'+N+1)<YY) :
  aH env.P 162 [PI x0,PI y] (PI (rq y (x0.length+1) x0)):=by
 have hlN:=bx0.len
 have hNy:=nR.len
 obtain⟨R,hR⟩:∃R,R=rq y (x0.length+1) x0:=⟨_,rfl⟩
 rw [←hR]
 obtain⟨M,hM⟩:∃M,M=s+(x0.length+1-y.length+1)*(s'+N+1):=⟨_,rfl⟩
 rw [←hM]at hB
 have hB:M<137438953472:=hB
 have hls:sz 2 ((lead y).natAbs:Int)≤s':=Nat.le_trans (cB (by decide) (by rw [Int.natAbs_natCast];exact Nat.le_refl _)) (gH nR)
 have e2:((y.length:Int)-1).toNat=y.length-1:=by omega
 have KT:nth y (y.length-1)=lead y:=rfl
 refine cY (E:=env) (fun id=>if id=16 then 2 else 0) [(0,PI x0),(1,PI y)] Tryz.func162 rfl (by kernel_rfl) (by kernel_rfl) (show 2≤78 by decide) (by simp) ?_
 refine aA [0,1] ?_
 refine W.sr ?_
 simp (disch:=omega) [gw,e2,KT]
 refine bO [0,1,5] ?_
 refine aA [0,1,5,6] ?_
 refine cC [0,1,5,6] ?_
 refine W.block ?_
 refine W.a8 (fun n σ=>∃(x:List Int) (j u:Nat) (rows:Pm.Rows) (clk:Nat),σ=⟨fa [(0,PI x),(1,PI y),(5, .ptr 5 0 0 0),(6, .ptr 6 1 0 0)],rows,clk⟩ ∧
  rows 5=some ⟨0,29,2,[[aJ aF (aU DD (lead y).natAbs), .bool (decide (lead y<0))]]⟩∧rows 6=some ⟨1,29,2,[[aJ aF (aU DD (lead y).natAbs), .bool false]]⟩ ∧
  Cn x∧x.length<n∧rq y n x=R∧Bd 2 u N x∧x.length+1≤y.length+j∧u+(j+1)*(s'+N+1)≤M) (x0.length+1) ?_ ?_
 ·exact⟨_, .refl,x0,x0.length+1-y.length,s,_,_,rfl,by simp,by simp,cx0,by omega,hR.symm,bx0,by omega,by omega⟩
 rintro n _ ⟨x,j,u,rows,clk,rfl,dY,kS,cx,hxn,hxR,bx,hj,hu⟩
 have hlx:=bx.len
 refine aM [0,1,5,6,25] ?_
 refine bP ?_ ?_<;>intro h
 ·have h:y.length≤x.length:=by simp at h;omega
  obtain⟨n,rfl⟩:∃m,n=m+1:=⟨n-1,by omega⟩
  rw [rq,if_neg (by omega)]at hxR
  have NG:=sJ PJ h
  obtain⟨k,hk⟩:∃k,k=x.length-y.length:=⟨_,rfl⟩
  have hkI:(x.length:Int)-(y.length:Int)=k:=by omega
  have e1:((x.length:Int)-1).toNat=x.length-1:=by omega
  have hxl:nth x (x.length-1)=lead x:=rfl
  have asv:=acx h
  have b2:=QN nR bx PJ h
  have hlX:sz 2 (lead x)≤u:=gH bx
  have hu1:u+(s'+N+1)≤M:=by
   have:=Nat.le_mul_of_pos_left (s'+N+1) (show 0<j+1 by omega)
   omega
  refine W.skip ?_
  refine W.block ?_
  refine W.sr ?_
  simp (disch:=omega) [gw,hkI]
  refine bO [0,1,5,6,7] ?_
  refine W.sr ?_
  simp (disch:=omega) [gw,e1,hxl]
  refine bO [0,1,5,6,7,8] ?_
  obtain⟨T,hT⟩:∃T,T=wS (lead y)*lead x:=⟨_,rfl⟩
  have hTs:sz 2 T≤u:=Nat.le_trans (cB (by decide) (by
   rw [hT,Int.natAbs_mul]
   have:(wS (lead y)).natAbs=1:=by unfold wS;split<;>rfl
   rw [this,Nat.one_mul];exact Nat.le_refl _)) hlX
  have hTp:(lead y<0→T = -lead x)∧(¬lead y<0→T=lead x):=by
   rw [hT];unfold wS
   constructor
   ·intro h;rw [if_pos h];omega
   ·intro h;rw [if_neg h];omega
  refine W.gD (fun σ=>∃(v:Nat) (rows:Pm.Rows) (clk:Nat),σ=⟨fa [(0,PI x),(1,PI y),(5, .ptr 5 0 0 0),(6, .ptr 6 1 0 0),(7, .int .i64 k),(8, .ptr 8 v 0 0)],rows,clk⟩ ∧
   rows 5=some ⟨0,29,2,[[aJ aF (aU DD (lead y).natAbs), .bool (decide (lead y<0))]]⟩∧rows 6=some ⟨1,29,2,[[aJ aF (aU DD (lead y).natAbs), .bool false]]⟩ ∧
   rows 8=some ⟨v,29,2,[[aJ aF (aU DD T.natAbs), .bool (decide (T<0))]]⟩) ?_ ?_
  ·refine W.sr ?_
   simp (disch:=omega) [gw,dY]
   refine bO [0,1,5,6,7,8,39] ?_
   refine bP ?_ ?_<;>intro h
   ·have h:lead y<0:=by simpa using h
    have KV:=rB (lead x)
    rw [←hTp.1 h]at KV
    refine W.b9 (fun K hK=>?_)
    simp (disch:=omega) [gw]
    refine b8 KV ?_
    exact hK _ ⟨_,aC _ [0,1,5,6,7,8],_,_,_,rfl,by simp [dY],by simp [kS],by simp⟩
   ·have h:¬lead y<0:=by simpa using h
    rw [hTp.2 h]
    refine W.skip ?_
    exact⟨_,aC _ [0,1,5,6,7,8],_,_,_,rfl,by simp [dY],by simp [kS],by simp⟩
  clear dY kS rows clk
  rintro _ ⟨v8,rows,clk,rfl,dY,kS,zM⟩
  refine aA [0,1,5,6,7,8,9] ?_
  refine W.nil 9 9 31 4 (by simp) (by decide) (fun K hK=>?_)
  refine W.lw [0,1,5,6,7,8,9] hK ?_;clear hK K;simp
  refine aM [0,1,5,6,7,8,9,43,44] ?_
  refine W.block ?_
  refine W.a8 (fun m σ=>∃(i v9:Nat) (rows:Pm.Rows) (clk:Nat),σ=⟨fa [(0,PI x),(1,PI y),(5, .ptr 5 0 0 0),(6, .ptr 6 1 0 0),(7, .int .i64 k),(8, .ptr 8 v8 0 0),(9, .own 9 v9 0 i),(43, .int .i64 x.length),(44, .int .i64 i)],rows,clk⟩ ∧
   rows 5=some ⟨0,29,2,[[aJ aF (aU DD (lead y).natAbs), .bool (decide (lead y<0))]]⟩∧rows 6=some ⟨1,29,2,[[aJ aF (aU DD (lead y).natAbs), .bool false]]⟩ ∧
   rows 8=some ⟨v8,29,2,[[aJ aF (aU DD T.natAbs), .bool (decide (T<0))]]⟩∧rows 9=some ⟨v9,31,4,emap ri ((List.range i).map (T8 y x))⟩∧i+m=x.length) x.length ?_ ?_
  ·exact⟨_,aC _ [0,1,5,6,7,8,9,43,44],0,_,_,_,rfl,by simp [dY],by simp [kS],by simp [zM],by simp [emap],by omega⟩
  clear dY kS zM rows clk
  rintro m _ ⟨i,v9,rows,clk,rfl,dY,kS,zM,tV,him⟩
  have wQ:((List.range i).map (T8 y x)).length=i:=by simp
  refine cC [0,1,5,6,7,8,9,43,44,45] ?_
  refine bP ?_ ?_<;>intro h
  ·have hi:i<x.length:=by simp at h;omega
   have hxi:=bx.nth i
   have m1:=eE (nth x i) ((lead y).natAbs:Int) (by show sz 2 _<1099511627776;omega) (by show sz 2 _<1099511627776;omega)
   rw [amj]at m1
   have s1:sz 2 (nth x i*((lead y).natAbs:Int))≤u+s':=cE (by decide) hxi hls
   have er:(List.range (i+1)).map (T8 y x)=(List.range i).map (T8 y x) ++ [T8 y x i]:=by
    rw [List.range_succ,List.map_append];rfl
   have hF:T8 y x i=nth x i*((lead y).natAbs:Int)-if k≤i then T*nth y (i-k)else 0:=by unfold T8;rw [hk,hT]
   generalize (List.range i).map (T8 y x)=acc at *
   generalize hP:nth x i*((lead y).natAbs:Int)=P at *
   refine iT ?_
   refine aA [0,1,5,6,7,8,9,10,43,44] ?_
   refine W.sd ?_
   simp (disch:=omega) [gw,kS]
   refine b8 m1 ?_
   rw [if_pos (by kernel_rfl)]
   simp (disch:=omega) [gw]
   refine bO [0,1,5,6,7,8,9,10,11,43,44] ?_
   generalize hQ:T8 y x i=Q at *
   have sQ:sz 2 Q≤u+(s'+N+1):=by
    have NC:sz 2 (nth y (i-k))≤s':=nR.nth _
    rw [hF]
    split
    ·have:=cE (b:=2) (by decide) hTs NC
     have h1:=o0 (b:=2) (by decide) (x:=P) (y := -(T*nth y (i-k))) (k:=u+s') s1 (by rw [o6];exact this)
     rw [←Int.sub_eq_add_neg]at h1
     omega
    ·rw [Int.sub_zero];omega
   refine W.gD (fun σ=>∃(v11:Nat) (rows:Pm.Rows) (clk:Nat),σ=⟨fa [(0,PI x),(1,PI y),(5, .ptr 5 0 0 0),(6, .ptr 6 1 0 0),(7, .int .i64 k),(8, .ptr 8 v8 0 0),(9, .own 9 v9 0 i),(11, .ptr 11 v11 0 0),(43, .int .i64 x.length),(44, .int .i64 i)],rows,clk⟩ ∧
    rows 5=some ⟨0,29,2,[[aJ aF (aU DD (lead y).natAbs), .bool (decide (lead y<0))]]⟩∧rows 6=some ⟨1,29,2,[[aJ aF (aU DD (lead y).natAbs), .bool false]]⟩ ∧
    rows 8=some ⟨v8,29,2,[[aJ aF (aU DD T.natAbs), .bool (decide (T<0))]]⟩∧rows 9=some ⟨v9,31,4,emap ri acc⟩ ∧
    rows 11=some ⟨v11,29,2,[[aJ aF (aU DD Q.natAbs), .bool (decide (Q<0))]]⟩) ?_ ?_
   ·refine aA [0,1,5,6,7,8,9,10,11,43,44,56] ?_
    refine bP ?_ ?_<;>intro h
    ·have hki:k≤i:=by simp at h;omega
     rw [if_pos hki]at hF
     have eik:(i:Int)-(k:Int)=((i-k:Nat):Int):=by omega
     have hyb:i-k<y.length:=by omega
     have m2:=eE T (nth y (i-k)) (by show sz 2 _<1099511627776;omega) (by have:=nR.nth (i-k);show sz 2 _<1099511627776;omega)
     have s2:=cE (b:=2) (by decide) hTs (nR.nth (i-k))
     have m3:=K7 P (T*nth y (i-k)) (by show sz 2 _<1099511627776;omega) (by show sz 2 _<1099511627776;omega)
     rw [←hF]at m3
     generalize T*nth y (i-k)=P2 at *
     refine W.BI (fun K hK=>?_)
     simp (disch:=omega) [gw,zM,eik]
     refine b8 m2 ?_
     refine b8 m3 ?_
     refine bF (by kernel_rfl) ?_
     simp (disch:=omega) [gw]
     exact hK _ ⟨_,aC _ [0,1,5,6,7,8,9,11,43,44],_,_,_,rfl,by simp [dY],by simp [kS],by simp [zM],by simp [tV],by simp⟩
    ·have hki:¬k≤i:=by simp at h;omega
     rw [if_neg hki,Int.sub_zero]at hF
     rw [hF]
     refine W.skip ?_
     exact⟨_,aC _ [0,1,5,6,7,8,9,11,43,44],_,_,_,rfl,by simp [dY],by simp [kS],by simp [zM],by simp [tV],by simp⟩
   clear dY kS zM tV rows clk
   rintro _ ⟨v11,rows,clk,rfl,dY,kS,zM,tV,axA⟩
   have o1:=iF 1 (by decide) (by decide)
   have mk:=xD Q (by show sz 2 Q<549755813888;omega)
   refine W.BI (fun K hK=>?_)
   rw [if_pos rfl,fE]
   simp (disch:=omega) [gw,axA]
   refine b8 o1 ?_
   refine aD mk ?_
   simp (disch:=omega) [gw,tV,wQ]
   refine W.lw [0,1,5,6,7,8,9,43,44] hK ?_;clear hK K;simp
   refine W.b9 (fun K hK=>?_);simp (disch:=omega) [gw]
   refine hK _ ⟨m-1,_,aC _ [0,1,5,6,7,8,9,43,44],by omega,i+1,_,_,_,rfl,by simp [dY],by simp [kS],by simp [zM],by rw [er];simp,by omega⟩
  ·have hi:i=x.length:=by simp at h;omega
   subst hi
   have fF:((List.range x.length).map (T8 y x)).length=x.length:=by simp
   generalize (List.range x.length).map (T8 y x)=acc at *
   have ez:=bJ fF
   have pE:=oJ acc (by omega)
   rw [asv]at pE
   refine eJ ?_
   refine W.b9 (fun K hK=>?_)
   simp (disch:=omega) [gw,tV,ez]
   refine b8 pE ?_
   obtain⟨j,rfl⟩:∃i,j=i+1:=⟨j-1,by omega⟩
   rw [Nat.add_mul,Nat.one_mul]at hu
   refine hK _ ⟨n,_,aC _ [0,1,5,6],by omega,T7 y x,j,u+(s'+N+1),_,_,rfl,by simp [dY],by simp [kS],Cn.dA _ _,by omega,hxR,b2,by omega,by omega⟩
 ·have h:x.length<y.length:=by simp at h;omega
  rw [ami h]at hxR
  subst hxR
  refine eJ ?_
  refine aA [4] ?_
  exact cP
end Go.Proofs.YtiobceocpabjdaaGreat
