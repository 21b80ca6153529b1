import Derived.Test.YtiobceocpabjdaaGreatKae
import Derived.Test.YtiobceocpabjdaaGreatKaj
set_option linter.unusedSimpArgs false
set_option linter.unusedVariables false
namespace Pm
structure ZX where
 l:List Int
 c:Cn l
namespace ZX
theorem ext{x y:ZX}(h:∀t,V t x.l=V t y.l):x=y:=by
 obtain⟨x,hx⟩:=x
 obtain⟨y,hy⟩:=y
 have:=Cn.ext hx hy h
 subst this
 rfl
def of(x:List Int):ZX:=⟨aP x,Cn.cut x⟩
def K(c:Int):ZX:=of [c]
instance:Zero ZX:=⟨⟨[],Cn.nil⟩⟩
instance:One ZX:=⟨K 1⟩
instance:Add ZX:=⟨fun x y=>⟨i3 x.l y.l,Cn.i3 _ _⟩⟩
instance:Mul ZX:=⟨fun x y=>⟨bR x.l y.l,Cn.bR _ _⟩⟩
instance:Neg ZX:=⟨fun x=>⟨iH x.l,Cn.iH _⟩⟩
instance:Sub ZX:=⟨fun x y=>⟨fS x.l y.l,Cn.fS _ _⟩⟩
def pow(x:ZX):Nat→ZX
 | 0=>1
 | n+1=>pow x n*x
instance:HPow ZX Nat ZX:=⟨pow⟩
instance:NatCast ZX:=⟨fun n=>K n⟩
instance (n:Nat):OfNat ZX n:=⟨K n⟩
instance:IntCast ZX:=⟨fun n=>K n⟩
instance:SMul Nat ZX:=⟨fun n x=>K n*x⟩
instance:SMul Int ZX:=⟨fun n x=>K n*x⟩
variable {t:Int}
theorem VF(x:List Int):V t (of x).l=V t x:=dE x
theorem wR(c:Int):V t (K c).l=c:=by rw [K,VF];simp [V]
theorem wC:V t (0:ZX).l=0:=wR 0
theorem IX:V t (1:ZX).l=1:=wR 1
theorem nI(x y:ZX):V t (x+y).l=V t x.l+V t y.l:=sV _ _
theorem eM(x y:ZX):V t (x*y).l=V t x.l*V t y.l:=dQ _ _
theorem IY(x:ZX):V t (-x).l = -V t x.l:=D6 _
theorem awZ(x y:ZX):V t (x-y).l=V t x.l-V t y.l:=jM _ _
theorem YM(x:ZX):∀n:Nat,V t (x^n).l=V t x.l^n
 | 0=>by show V t (1:ZX).l=_;rw [IX,Int.pow_zero]
 | n+1=>by show V t ((x^n)*x).l=_;rw [eM,YM x n,Int.pow_succ]
theorem YN(n:Nat):V t (OfNat.ofNat n:ZX).l=n:=wR n
theorem amA(n:Int):V t (n:ZX).l=n:=wR n
theorem YO(n:Int)(x:ZX):V t (n • x).l=n*V t x.l:=by show V t (K n*x).l=_;rw [eM,wR]
instance:Lean.Grind.CommRing ZX where
 add_zero x:=ext fun t=>by rw [nI,wC];omega
 add_comm x y:=ext fun t=>by rw [nI,nI];omega
 add_assoc x y z:=ext fun t=>by simp only [nI];omega
 mul_assoc x y z:=ext fun t=>by simp only [eM];grind
 mul_one x:=ext fun t=>by rw [eM,IX];omega
 one_mul x:=ext fun t=>by rw [eM,IX];omega
 left_distrib x y z:=ext fun t=>by simp only [eM,nI];grind
 right_distrib x y z:=ext fun t=>by simp only [eM,nI];grind
 zero_mul x:=ext fun t=>by rw [eM,wC];omega
 mul_zero x:=ext fun t=>by rw [eM,wC];omega
 pow_zero x:=ext fun t=>by rw [YM,IX,Int.pow_zero]
 pow_succ x n:=ext fun t=>by rw [eM,YM,YM,Int.pow_succ]
 ofNat_succ n:=ext fun t=>by rw [nI,YN,YN,IX];omega
 ofNat_eq_natCast n:=rfl
 nsmul_eq_natCast_mul n x:=rfl
 neg_add_cancel x:=ext fun t=>by rw [nI,IY,wC];omega
 sub_eq_add_neg x y:=ext fun t=>by rw [awZ,nI,IY];omega
 neg_zsmul n x:=ext fun t=>by rw [YO,IY,YO];grind
 zsmul_natCast_eq_nsmul n x:=rfl
 intCast_ofNat n:=rfl
 intCast_neg n:=ext fun t=>by rw [amA,IY,amA]
 mul_comm x y:=ext fun t=>by rw [eM,eM,Int.mul_comm]
def N(x:ZX):Nat:=x.l.length
theorem aF{x:ZX}:x≠0↔0<N x:=by
 constructor
 ·intro h
  rcases Nat.eq_zero_or_pos (N x)with h1 | h1
  ·exfalso
   apply h
   have:x.l = []:=List.eq_nil_of_length_eq_zero h1
   exact ext fun t=>by rw [this,wC];rfl
  ·exact h1
 ·rintro h rfl
  have:N (0:ZX)=0:=by decide
  omega
theorem aeU:N (0:ZX)=0:=by decide
theorem jT{x y:ZX}(hx:x≠0)(hy:y≠0):N (x*y)=N x+N y-1:=kP x.c y.c (aF.1 hx) (aF.1 hy)
theorem mE{x y:ZX}(hx:x≠0)(hy:y≠0):x*y≠0:=by
 rw [aF,jT hx hy]
 have:=aF.1 hx
 have:=aF.1 hy
 omega
theorem tB{x y:ZX}(h:x*y=0):x=0∨y=0:=by
 by_cases hx:x=0
 ·exact .inl hx
 ·by_cases hy:y=0
  ·exact .inr hy
  ·exact absurd h (mE hx hy)
theorem abB(x y:ZX):x*y=y*x:=by grind
theorem cancel{x y z:ZX}(hz:z≠0)(h:z*x=z*y):x=y:=by
 have h1:z*(x-y)=0:=by grind
 rcases tB h1 with h2 | h2
 ·exact absurd h2 hz
 ·grind
theorem pM{c:Int}(h:c≠0):K c≠0:=fun e=>h (by
 have:=wR (t:=0) c
 rw [e,wC]at this;omega)
theorem N_K{c:Int}(h:c≠0):N (K c)=1:=by
 show(aP [c]).length=1
 rw [show aP [c] = [c]from jD h []];rfl
theorem qF(c d:Int):K c*K d=K (c*d):=ext fun t=>by rw [eM,wR,wR,wR]
theorem lL{x:ZX}(h:N x=1):∃c,c≠0∧x=K c:=by
 obtain⟨l,hl⟩:=x
 match l,hl,h with
 | [c],hl,_ =>
  have hc:c≠0:=by
   have:=dH hl (by simp)
   simpa [lead,tZ]using this
  exact⟨c,hc,ext fun t=>by rw [wR];simp [V]⟩
theorem nO{c:Int}{x y q:ZX}(hc:c≠0)(hx:x≠0)(h:K c*x=q*y):q≠0∧y≠0:=by
 have h1:=mE (pM hc) hx
 rw [h]at h1
 constructor
 ·rintro rfl;apply h1;grind
 ·rintro rfl;apply h1;grind
theorem q9:(1:ZX)≠0:=pM (by decide)
theorem BB:N (1:ZX)=1:=N_K (by decide)
def dv(y x:ZX):Prop:=∃c:Int,c≠0 ∧ ∃q,K c*x=q*y
theorem dv.refl(x:ZX):dv x x:=⟨1,by decide,K 1,rfl⟩
theorem dv.zero(x:ZX):dv x 0:=⟨1,by decide,0,by grind⟩
theorem dv.trans{x y z:ZX}(h1:dv x y)(h2:dv y z):dv x z:=by
 obtain⟨c,hc,q,h1⟩:=h1
 obtain⟨d,hd,r,h2⟩:=h2
 exact⟨c*d,Int.mul_ne_zero hc hd,q*r,by rw [←qF];grind⟩
theorem dv.mul_right{x y:ZX}(h:dv x y)(z:ZX):dv x (y*z):=by
 obtain⟨c,hc,q,h⟩:=h
 exact⟨c,hc,q*z,by grind⟩
theorem dv.mul_left{x y:ZX}(h:dv x y)(z:ZX):dv x (z*y):=by
 obtain⟨c,hc,q,h⟩:=h
 exact⟨c,hc,q*z,by grind⟩
theorem dv.mul{x y z w:ZX}(h1:dv x y)(h2:dv z w):dv (x*z) (y*w):=by
 obtain⟨c,hc,q,h1⟩:=h1
 obtain⟨d,hd,r,h2⟩:=h2
 exact⟨c*d,Int.mul_ne_zero hc hd,q*r,by rw [←qF];grind⟩
theorem dv.add{x y z:ZX}(h1:dv x y)(h2:dv x z):dv x (y+z):=by
 obtain⟨c,hc,q,h1⟩:=h1
 obtain⟨d,hd,r,h2⟩:=h2
 exact⟨c*d,Int.mul_ne_zero hc hd,K d*q+K c*r,by rw [←qF];grind⟩
theorem dv.G3{x y:ZX}{c:Int}(hc:c≠0)(h:dv x (K c*y)):dv x y:=by
 obtain⟨d,hd,q,h⟩:=h
 exact⟨d*c,Int.mul_ne_zero hd hc,q,by rw [←qF];grind⟩
theorem dv.mF{x y:ZX}(h:dv x y)(hy:y≠0):N x≤N y:=by
 obtain⟨c,hc,q,h⟩:=h
 obtain⟨h1,h2⟩:=nO hc hy h
 have h3:N (K c*y)=N y:=by rw [jT (pM hc) hy,N_K hc];have:=aF.1 hy;omega
 rw [h,jT h1 h2]at h3
 have:=aF.1 h1
 omega
theorem dv.ne{x y:ZX}(h:dv x y)(hy:y≠0):x≠0:=by
 obtain⟨c,hc,q,h⟩:=h
 exact(nO hc hy h).2
theorem CD{x:ZX}(h:dv 0 x):x=0:=by
 obtain⟨c,hc,q,h⟩:=h
 have h2:K c*x=0:=by grind
 exact(tB h2).resolve_left (pM hc)
theorem aw0{c:Int}(hc:c≠0)(x:ZX):dv (K c) x:=⟨c,hc,x,by grind⟩
theorem ajI{x y:ZX}(h:dv x y)(hy:y≠0)(hN:N x=N y):dv y x:=by
 obtain⟨c,hc,q,h⟩:=h
 obtain⟨h1,h2⟩:=nO hc hy h
 have h3:N (K c*y)=N y:=by rw [jT (pM hc) hy,N_K hc];have:=aF.1 hy;omega
 rw [h,jT h1 h2]at h3
 have h4:=aF.1 h1
 have h5:=aF.1 h2
 obtain⟨d,hd,rfl⟩:=lL (x:=q) (by omega)
 exact⟨d,hd,K c,by rw [h]⟩
theorem afl(a:ZX){b:ZX}(hb:b≠0):∃c:Int,c≠0 ∧ ∃q r,K c*a=q*b+r∧N r<N b:=by
 have h0:=aF.1 hb
 obtain⟨c1,c2⟩:=D9 (b:=b.l) a.c
 refine⟨lead b.l^j8 a.l b.l,Int.pow_ne_zero (dH b.c h0),⟨_,c1⟩,⟨_,c2⟩,ext fun t=>?_,?_⟩
 ·rw [eM,wR,nI,eM]
  exact(aem t a.l b.l).symm
 ·have:=KV (a:=a.l) h0
  show(AX a.l b.l).2.length<b.l.length
  have:0<b.l.length:=h0
  omega
structure r6(g a b:ZX):Prop where
 l:dv g a
 r:dv g b
 uv:∃c:Int,c≠0 ∧ ∃u v,K c*g=u*a+v*b
theorem r6.least{g a b d:ZX}(h:r6 g a b)(ha:dv d a)(hb:dv d b):dv d g:=by
 obtain⟨c,hc,u,v,e⟩:=h.uv
 refine dv.G3 hc ?_
 rw [e]
 exact(ha.mul_left u).add (hb.mul_left v)
theorem r6.ne{g a b:ZX}(h:r6 g a b)(ha:a≠0∨b≠0):g≠0:=by
 rintro rfl
 rcases ha with h1 | h1
 ·exact h1 (CD h.l)
 ·exact h1 (CD h.r)
theorem r6.zero(a:ZX):r6 a a 0:=⟨dv.refl a,dv.zero a,1,by decide,1,0,by show(1:ZX)*a=_;grind⟩
theorem r6.symm{g a b:ZX}(h:r6 g a b):r6 g b a:=by
 obtain⟨c,hc,u,v,e⟩:=h.uv
 exact⟨h.r,h.l,c,hc,v,u,by grind⟩
theorem r6.step{g a b q r:ZX}{c:Int}(hc:c≠0)(e:K c*a=q*b+r)(h:r6 g b r):r6 g a b:=by
 obtain⟨d,hd,u,v,e2⟩:=h.uv
 refine⟨dv.G3 hc ?_,h.l,d,hd,v*K c,u-v*q,by grind⟩
 rw [e]
 exact(h.l.mul_left q).add h.r
theorem kA:∀(n:Nat) (a b:ZX),N b≤n → ∃g,r6 g a b
 | 0,a,b,h=>by
  have:b=0:=Classical.byContradiction fun hb=>by have:=aF.1 hb;omega
  subst this
  exact⟨a,r6.zero a⟩
 | n+1,a,b,h=>by
  by_cases hb:b=0
  ·subst hb;exact⟨a,r6.zero a⟩
  ·obtain⟨c,hc,q,r,e,hr⟩:=afl a hb
   obtain⟨g,hg⟩:=kA n b r (by omega)
   exact⟨g,hg.step hc e⟩
structure pN(p:ZX):Prop where
 deg:2≤N p
 irr:∀d,dv d p→N d=1∨N d=N p
theorem pN.ne{p:ZX}(h:pN p):p≠0:=aF.2 (by have:=h.deg;omega)
theorem pN.amB{p a b:ZX}(hp:pN p)(h:dv p (a*b)):dv p a∨dv p b:=by
 obtain⟨g,hg⟩:=kA _ p a (Nat.le_refl _)
 rcases hp.irr g hg.l with h1 | h1
 ·right
  obtain⟨k,hk,rfl⟩:=lL h1
  obtain⟨c,hc,u,v,e⟩:=hg.uv
  refine dv.G3 (c:=c*k) (Int.mul_ne_zero hc hk) ?_
  have e2:K (c*k)*b=(u*b)*p+v*(a*b):=by rw [←qF];grind
  rw [e2]
  exact((dv.refl p).mul_left _).add (h.mul_left v)
 ·left
  exact(ajI hg.l hp.ne h1).trans hg.r
theorem oD:∀(n:Nat) (a:ZX),N a≤n→2≤N a → ∃p,pN p∧dv p a
 | 0,a,h,h2=>by omega
 | n+1,a,h,h2=>by
  by_cases hi:∃d,dv d a∧N d≠1∧N d≠N a
  ·obtain⟨d,hd,h3,h4⟩:=hi
   have h5:=hd.mF (aF.2 (by omega))
   have h6:=aF.1 (hd.ne (aF.2 (by omega)))
   obtain⟨p,hp,hpd⟩:=oD n d (by omega) (by omega)
   exact⟨p,hp,hpd.trans hd⟩
  ·refine⟨a,⟨h2,fun d hd=>?_⟩,dv.refl a⟩
   by_cases h3:N d=1
   ·exact .inl h3
   ·by_cases h4:N d=N a
    ·exact .inr h4
    ·exact absurd ⟨d,hd,h3,h4⟩ hi
theorem pow_succ'(p:ZX)(k:Nat):p^(k+1)=p^k*p:=rfl
theorem eQ(p:ZX):p^0=1:=rfl
theorem pow_add'(p:ZX)(j:Nat):∀k,p^(j+k)=p^j*p^k
 | 0=>by rw [Nat.add_zero,eQ];grind
 | k+1=>by rw [←Nat.add_assoc,pow_succ',pow_succ',pow_add' p j k];grind
theorem LK{p:ZX}(hp:p≠0):∀k:Nat,p^k≠0
 | 0=>q9
 | k+1=>mE (LK hp k) hp
theorem afm{p:ZX}(hp:pN p):∀k:Nat,k<N (p^k)
 | 0=>by rw [eQ,BB];omega
 | k+1=>by
  rw [pow_succ',jT (LK hp.ne k) hp.ne]
  have:=afm hp k
  have:=hp.deg
  omega
theorem afn{p:ZX}{j k:Nat}(h:j≤k):dv (p^j) (p^k):=by
 obtain⟨d,rfl⟩:=Nat.exists_eq_add_of_le h
 rw [pow_add']
 exact(dv.refl _).mul_right _
theorem abC{p a:ZX}(hp:pN p)(ha:a≠0):∃k,dv (p^k) a∧¬dv (p^(k+1)) a:=by
 have key:∀n,(∃k,k≤n∧dv (p^k) a∧¬dv (p^(k+1)) a)∨dv (p^(n+1)) a:=by
  intro n
  induction n with
  | zero =>
   by_cases h:dv (p^1) a
   ·exact .inr h
   ·exact .inl ⟨0,Nat.le_refl _,aw0 (by decide) a,h⟩
  | succ n ih =>
   rcases ih with ⟨k,h1,h2⟩ | ih
   ·exact .inl ⟨k,by omega,h2⟩
   ·by_cases h:dv (p^(n+2)) a
    ·exact .inr h
    ·exact .inl ⟨n+1,Nat.le_refl _,ih,h⟩
 rcases key (N a)with ⟨k,_,h⟩ | h
 ·exact⟨k,h⟩
 ·have h1:=h.mF ha
  have h2:=afm hp (N a+1)
  omega
open Classical in
noncomputable def mu(p a:ZX):Nat:=if h:∃k,dv (p^k) a∧¬dv (p^(k+1)) a then h.choose else 0
theorem YP{p a:ZX}(hp:pN p)(ha:a≠0):dv (p^mu p a) a∧¬dv (p^(mu p a+1)) a:=by
 have h:=abC hp ha
 unfold mu
 rw [dif_pos h]
 exact h.choose_spec
theorem jU{p a:ZX}(hp:pN p)(ha:a≠0){k:Nat}:k≤mu p a↔dv (p^k) a:=by
 obtain⟨h1,h2⟩:=YP hp ha
 constructor
 ·intro h;exact(afn h).trans h1
 ·intro h
  rcases Nat.lt_or_ge (mu p a) k with h3 | h3
  ·exact absurd ((afn h3).trans h) h2
  ·exact h3
theorem E6{p a:ZX}(hp:pN p)(ha:a≠0):∃c:Int,c≠0 ∧ ∃b,b≠0∧K c*a=b*p^mu p a∧¬dv p b:=by
 obtain⟨⟨c,hc,b,e⟩,h2⟩:=YP hp ha
 refine⟨c,hc,b,(nO hc ha e).1,e,fun h=>h2 (dv.G3 hc ?_)⟩
 rw [e,pow_succ']
 have:=h.mul (dv.refl (p^mu p a))
 rw [show p^mu p a*p=p*p^mu p a by grind]
 exact this
theorem zN{p a b:ZX}(hp:pN p)(ha:a≠0){c:Int}(hc:c≠0){k:Nat}(e:K c*a=b*p^k)(h:¬dv p b):mu p a=k:=by
 have h1:k≤mu p a:=(jU hp ha).2 ⟨c,hc,b,e⟩
 rcases Nat.lt_or_ge k (mu p a)with h2 | h2
 ·exfalso
  obtain⟨d,hd,r,e2⟩:=(jU hp ha).1 h2
  apply h
  refine⟨d,hd,K c*r,ZX.cancel (LK hp.ne k) ?_⟩
  rw [pow_succ']at e2
  grind
 ·omega
theorem tC{p a b:ZX}(hp:pN p)(ha:a≠0)(hb:b≠0):mu p (a*b)=mu p a+mu p b:=by
 obtain⟨c,hc,x,_,e1,h1⟩:=E6 hp ha
 obtain⟨d,hd,y,_,e2,h2⟩:=E6 hp hb
 refine zN (b:=x*y) hp (mE ha hb) (Int.mul_ne_zero hc hd) ?_ fun h=>?_
 ·rw [pow_add',←qF];grind
 ·rcases hp.amB h with h3 | h3
  ·exact h1 h3
  ·exact h2 h3
theorem abD{p:ZX}(hp:pN p){c:Int}(hc:c≠0):mu p (K c)=0:=by
 refine zN (b:=K c) (c:=1) hp (pM hc) (by decide) (by rw [eQ];show(1:ZX)*K c=_;grind) fun h=>?_
 have:=h.mF (pM hc)
 rw [N_K hc]at this
 have:=hp.deg
 omega
theorem YQ{p a b:ZX}(hp:pN p)(hb:b≠0)(h:dv a b):mu p a≤mu p b:=(jU hp hb).2 (((jU hp (h.ne hb)).1 (Nat.le_refl _)).trans h)
theorem amC{p a b q:ZX}(hp:pN p){c:Int}(hc:c≠0)(ha:a≠0)(e:K c*a=q*b):mu p a=mu p q+mu p b:=by
 obtain⟨h1,h2⟩:=nO hc ha e
 rw [←tC hp h1 h2,←e,tC hp (pM hc) ha,abD hp hc];omega
theorem QQ:∀(n:Nat) (a b:ZX),N a≤n→a≠0→b≠0→(∀p,pN p→mu p a≤mu p b)→dv a b
 | 0,a,b,hn,ha,_,_=>by have:=aF.1 ha;omega
 | n+1,a,b,hn,ha,hb,h=>by
  rcases Nat.lt_or_ge (N a) 2 with h1 | h1
  ·obtain⟨c,hc,rfl⟩:=lL (x:=a) (by have:=aF.1 ha;omega)
   exact aw0 hc b
  ·obtain⟨p,hp,hpa⟩:=oD _ a (Nat.le_refl _) h1
   have h2:1≤mu p a:=(jU hp ha).2 (by rw [show p^1=p by rw [pow_succ',eQ];grind];exact hpa)
   have h3:dv p b:=by
    have:=(jU hp hb).1 (Nat.le_trans h2 (h p hp))
    rwa [show p^1=p by rw [pow_succ',eQ];grind]at this
   obtain⟨c,hc,a',ea⟩:=hpa
   obtain⟨d,hd,b',eb⟩:=h3
   obtain⟨HE,_⟩:=nO hc ha ea
   obtain⟨kY,_⟩:=nO hd hb eb
   have h4:N (K c*a)=N a:=by rw [jT (pM hc) ha,N_K hc];have:=aF.1 ha;omega
   have h5:dv a' b':=QQ n a' b' (by
    rw [ea,jT HE hp.ne]at h4
    have:=hp.deg
    omega) HE kY fun r hr=>by
    have h6:=h r hr
    rw [amC hr hc ha ea,amC hr hd hb eb]at h6
    omega
   refine dv.G3 hd ?_
   rw [eb]
   have h7:=h5.mul (dv.refl p)
   rw [←ea]at h7
   obtain⟨e,he,q,e3⟩:=h7
   exact⟨e,he,q*K c,by grind⟩
theorem kR{a b:ZX}(ha:a≠0)(hb:b≠0):dv a b ↔ ∀p,pN p→mu p a≤mu p b:=⟨fun h p hp=>YQ hp hb h,QQ _ a b (Nat.le_refl _) ha hb⟩
theorem r6.mu{g a b p:ZX}(h:r6 g a b)(ha:a≠0)(hb:b≠0)(hp:pN p):mu p g=min (ZX.mu p a) (ZX.mu p b):=by
 have hg:=h.ne (.inl ha)
 have h1:=YQ hp ha h.l
 have h2:=YQ hp hb h.r
 have h3:min (ZX.mu p a) (ZX.mu p b)≤ZX.mu p g:=(jU hp hg).2 (h.least ((jU hp ha).1 (Nat.min_le_left _ _)) ((jU hp hb).1 (Nat.min_le_right _ _)))
 omega
def zO(x:List Int):List Int:=(List.range (x.length-1)).map fun i=>nth x (i+1)*((i+1:Nat):Int)
def rY:Nat→List Int→List Int
 | _,[]=>[]
 | k,a::l=>a*(k:Int)::rY (k+1) l
def W(t:Int):List Int→Int
 | []=>0
 | _::l=>V t l+t*W t l
theorem YR:∀(l:List Int) (k:Nat),rY k l=(List.range l.length).map fun i=>nth l i*((k+i:Nat):Int)
 | [],k=>rfl
 | a::l,k=>by
  rw [rY,YR l (k+1),List.length_cons,List.range_succ_eq_map,List.map_cons,List.map_map]
  congr 1
  refine List.map_congr_left fun i _=>?_
  simp only [Function.comp_apply,kQ]
  rw [show k+1+i=k+(i+1)by omega]
theorem IZ(a:Int)(l:List Int):zO (a::l)=rY 1 l:=by
 rw [YR,zO,List.length_cons,Nat.add_sub_cancel]
 refine List.map_congr_left fun i _=>?_
 rw [kQ,show i+1=1+i by omega]
theorem BC(t:Int):∀(l:List Int) (k:Nat),V t (rY (k+1) l)=V t (rY k l)+V t l
 | [],k=>by simp [rY,V]
 | a::l,k=>by
  simp only [rY,V]
  rw [BC t l (k+1)]
  have:((k+1:Nat):Int)=(k:Int)+1:=by omega
  rw [this];grind
theorem E7(t:Int):∀l:List Int,V t (rY 1 l)=V t l+t*W t l
 | []=>by simp [rY,V,W]
 | b::m=>by
  rw [rY]
  simp only [V,W]
  rw [BC,E7 t m]
  rw [show((1:Nat):Int)=1 from rfl]
  grind
theorem aqv(t:Int):∀x:List Int,V t (zO x)=W t x
 | []=>rfl
 | a::l=>by rw [IZ,E7];rfl
def bX(x:ZX):ZX:=of (zO x.l)
theorem QR(x:ZX):V t (bX x).l=W t x.l:=by rw [bX,VF,aqv]
theorem LM(t h:Int):∀x:List Int,∃R:Int,V (t+h) x=V t x+h*W t x+h*h*R
 | []=>⟨0,by simp [V,W]⟩
 | a::l=>by
  obtain⟨R,hR⟩:=LM t h l
  refine⟨W t l+(t+h)*R,?_⟩
  simp only [V,W]
  rw [hR];grind
theorem VG{t A:Int}{z:List Int}(hA:∀h,∃R:Int,V (t+h) z=V t z+h*A+h*h*R):W t z=A:=by
 have key:∀h:Int,h≠0→h∣W t z-A:=fun h hh=>by
  obtain⟨R,hR⟩:=hA h
  obtain⟨S,hS⟩:=LM t h z
  refine⟨R-S,Int.eq_of_mul_eq_mul_left hh ?_⟩
  grind
 have h1:=key (((W t z-A).natAbs:Int)+1) (by omega)
 have h2:=Int.natAbs_dvd_natAbs.2 h1
 rcases Nat.eq_zero_or_pos (W t z-A).natAbs with h3 | h3
 ·omega
 ·have:=Nat.le_of_dvd h3 h2
  omega
theorem uG(x y:ZX):bX (x*y)=bX x*y+x*bX y:=ext fun t=>by
 rw [QR,nI,eM,eM,QR,QR]
 refine VG fun h=>?_
 obtain⟨R,hR⟩:=LM t h x.l
 obtain⟨S,hS⟩:=LM t h y.l
 refine⟨V t x.l*S+R*V t y.l+W t x.l*W t y.l+h*(W t x.l*S+R*W t y.l)+h*h*R*S,?_⟩
 rw [eM,eM,hR,hS];grind
theorem amD(c:Int):bX (K c)=0:=ext fun t=>by
 rw [QR,wC]
 refine VG fun h=>⟨0,?_⟩
 rw [wR,wR];grind
theorem afo(c:Int)(x:ZX):bX (K c*x)=K c*bX x:=by rw [uG,amD];grind
theorem YS:bX (1:ZX)=0:=amD 1
theorem YT(p:ZX):∀m:Nat,bX (p^(m+1))=K ((m+1:Nat):Int)*p^m*bX p
 | 0=>by
  rw [pow_succ',uG,eQ,YS]
  show _=(1:ZX)*1*bX p
  grind
 | m+1=>by
  rw [pow_succ',uG,YT p m]
  have:K ((m+1+1:Nat):Int)=K ((m+1:Nat):Int)+1:=ext fun t=>by rw [nI,wR,wR,IX];omega
  rw [this,pow_succ'];grind
theorem oE(a:ZX):N (bX a)≤N a-1:=Nat.le_trans (bW _) (by simp [zO,N])
theorem LN{a:ZX}(h:2≤N a):bX a≠0:=by
 have h1:a.l.length=N a:=rfl
 have hl:=dH a.c (by omega)
 intro h0
 have h2:nth (bX a).l (N a-2)=nth a.l (N a-1)*((N a-1:Nat):Int):=by
  show nth (aP (zO a.l)) _=_
  rw [jS,zO,cE (by simp;omega)]
  simp only [List.getElem_map,List.getElem_range]
  rw [show N a-2+1=N a-1 by omega]
 rw [h0]at h2
 have h3:nth (0:ZX).l (N a-2)=0:=i0 (by show(0:ZX).l.length≤_;exact Nat.zero_le _)
 rw [h3]at h2
 have h4:nth a.l (N a-1)=lead a.l:=by rw [lead,h1]
 rw [h4]at h2
 exact Int.mul_ne_zero hl (by omega) h2.symm
theorem pN.VH{p:ZX}(hp:pN p):¬dv p (bX p):=fun h=>by
 have h1:=h.mF (LN hp.deg)
 have h2:=oE p
 have:=hp.deg
 omega
theorem zP{p a:ZX}(hp:pN p)(ha:a≠0){m:Nat}(h:mu p a=m+1):bX a≠0∧mu p (bX a)=m:=by
 obtain⟨c,hc,b,hb,e,hn⟩:=E6 hp ha
 rw [h]at e
 have e2:K c*bX a=(bX b*p+K ((m+1:Nat):Int)*(b*bX p))*p^m:=by
  rw [←afo,e,uG,YT,pow_succ'];grind
 have OG:¬dv p (bX b*p+K ((m+1:Nat):Int)*(b*bX p)):=fun h1=>by
  have h2:dv p (K ((m+1:Nat):Int)*(b*bX p)):=by
   have h3:=h1.add ((dv.refl p).mul_left (-bX b))
   rwa [show bX b*p+K ((m+1:Nat):Int)*(b*bX p) + -bX b*p=K ((m+1:Nat):Int)*(b*bX p)by grind]at h3
  have h4:=dv.G3 (by omega) h2
  rcases hp.amB h4 with h5 | h5
  ·exact hn h5
  ·exact hp.VH h5
 have h6:bX a≠0:=fun h0=>by
  rw [h0]at e2
  have h7:(bX b*p+K ((m+1:Nat):Int)*(b*bX p))*p^m=0:=by rw [←e2];grind
  rcases tB h7 with h8 | h8
  ·rw [h8]at OG;exact OG (dv.zero p)
  ·exact LK hp.ne m h8
 exact⟨h6,zN hp h6 hc e2 OG⟩
theorem r6.zP{g a p:ZX}(h:r6 g a (bX a))(ha:a≠0)(hp:pN p):ZX.mu p g=ZX.mu p a-1:=by
 rcases Nat.eq_zero_or_pos (ZX.mu p a)with h1 | h1
 ·have:=YQ hp ha h.l
  omega
 ·obtain⟨m,hm⟩:∃m,ZX.mu p a=m+1:=⟨ZX.mu p a-1,by omega⟩
  obtain⟨h2,h3⟩:=ZX.zP hp ha hm
  rw [h.mu ha h2 hp,h3,hm];omega
theorem LO{p:ZX}(hp:pN p):mu p 1=0:=abD hp (by decide)
theorem r6.aw1{g a b q r:ZX}{c k:Int}(hc:c≠0)(hk:k≠0)(e:K c*a=q*b+K k*r)(h:r6 g b r):r6 g a b:=by
 obtain⟨d,hd,u,v,e2⟩:=h.uv
 refine⟨dv.G3 hc ?_,h.l,k*d,Int.mul_ne_zero hk hd,v*K c,K k*u-v*q,by rw [←qF];grind⟩
 rw [e]
 exact(h.l.mul_left q).add (h.r.mul_left _)
theorem r6.assoc{g g' a b:ZX}(h:r6 g a b)(h':r6 g' a b):dv g g'∧dv g' g:=⟨h'.least h.l h.r,h.least h'.l h'.r⟩
theorem r6.congr{g a b a' b':ZX}(h:r6 g a b)(h1:dv a a')(h2:dv a' a)(h3:dv b b')(h4:dv b' b):r6 g a' b':=by
 obtain⟨g',hg'⟩:=kA _ a' b' (Nat.le_refl _)
 obtain⟨c,hc,u,v,e⟩:=hg'.uv
 have h5:dv g g':=hg'.least (h.l.trans h1) (h.r.trans h3)
 have h6:dv g' g:=h.least (hg'.l.trans h2) (hg'.r.trans h4)
 obtain⟨d,hd,w,e2⟩:=h6
 refine⟨h.l.trans h1,h.r.trans h3,c*d,Int.mul_ne_zero hc hd,w*u,w*v,by rw [←qF];grind⟩
end ZX
theorem QS{H t:Nat}:∀ {x:List Int},(∀c∈x,c.natAbs≤H)→(V (t:Int) x).natAbs≤H*(1+t)^x.length
 | [],_=>by simp [V]
 | a::l,h=>by
  have h1:=QS (t:=t) (x:=l) fun c hc=>h c (by simp [hc])
  have h2:=h a (by simp)
  simp only [V]
  have h3:(a+(t:Int)*V t l).natAbs≤a.natAbs+t*(V (t:Int) l).natAbs:=by
   have:=Int.natAbs_add_le a ((t:Int)*V t l)
   rwa [Int.natAbs_mul,Int.natAbs_natCast]at this
  have h4:t*(V (t:Int) l).natAbs≤t*(H*(1+t)^l.length):=Nat.mul_le_mul_left _ h1
  have h5:H*1≤H*(1+t)^l.length:=Nat.mul_le_mul_left _ (Nat.one_le_pow _ _ (by omega))
  rw [List.length_cons,Nat.pow_succ]
  have h6:H*((1+t)^l.length*(1+t))=H*(1+t)^l.length+t*(H*(1+t)^l.length):=by grind
  omega
def sdv(s:Int):List Int→List Int
 | []=>[]
 | _::l=>V s l::sdv s l
theorem amE(s t:Int):∀x:List Int,V t x=V s x+(t-s)*V t (sdv s x)
 | []=>by simp [V,sdv]
 | a::l=>by
  have:=amE s t l
  simp only [V,sdv]
  have h2:t*V t l=t*(V s l+(t-s)*V t (sdv s l)):=by rw [←this]
  grind
theorem QT(s:Int):∀x:List Int,x ≠ [] → ∃y,sdv s x=y ++ [0]∧y.length=x.length-1
 | [],h=>absurd rfl h
 | [a],_=>⟨[],by simp [sdv,V],rfl⟩
 | a::b::l,_=>by
  obtain⟨y,h1,h2⟩:=QT s (b::l) (by simp)
  refine⟨V s (b::l)::y,by rw [sdv,h1];rfl,by simp at h2 ⊢;omega⟩
theorem E8{s:Nat}{M:Nat}:∀ {x:List Int},(V (s:Int) x).natAbs≤M→(∀c∈sdv s x,c.natAbs≤M) → ∀c∈x,c.natAbs≤M*(1+s)
 | [],_,_,c,hc=>by cases hc
 | a::l,h0,h,c,hc=>by
  have h1:(V (s:Int) l).natAbs≤M:=h _ (by simp [sdv])
  have h2:∀c∈sdv s l,c.natAbs≤M:=fun c hc=>h c (by simp [sdv,hc])
  rcases List.mem_cons.1 hc with rfl | hc
  ·simp only [V]at h0
   have h3:c.natAbs≤(c+(s:Int)*V s l).natAbs+s*(V (s:Int) l).natAbs:=by
    have h4:c=(c+(s:Int)*V s l)+(-((s:Int)*V s l)):=by omega
    have h5:=Int.natAbs_add_le (c+(s:Int)*V s l) (-((s:Int)*V s l))
    rw [←h4,Int.natAbs_neg,Int.natAbs_mul,Int.natAbs_natCast]at h5
    exact h5
   have h4:s*(V (s:Int) l).natAbs≤s*M:=Nat.mul_le_mul_left _ h1
   rw [Nat.mul_add,Nat.mul_one,Nat.mul_comm M s];omega
  ·exact E8 h1 h2 c hc
theorem LP(K:Nat):∀(P:List Nat) (A:Nat) (x:List Int),P.Nodup→(∀p∈P,p≤K)→x.length≤P.length→(∀p∈P,(V (p:Int) x).natAbs≤A) → ∀c∈x,c.natAbs≤A*(2*(K+1))^P.length
 | [],A,x,_,_,hl,_,c,hc=>by
  have:x = []:=List.eq_nil_of_length_eq_zero (by simpa using hl)
  rw [this]at hc;cases hc
 | s::P,A,x,hd,hK,hl,hv,c,hc=>by
  have hx:x ≠ []:=fun h=>by rw [h]at hc;cases hc
  have h0:=hv s (List.mem_cons_self ..)
  obtain⟨hs,hd⟩:=List.nodup_cons.1 hd
  obtain⟨y,h1,h2⟩:=QT s x hx
  have hy:∀t:Int,V t (sdv s x)=V t y:=fun t=>by rw [h1,eJ];simp [V]
  have h3:∀p∈P,(V (p:Int) y).natAbs≤2*A:=fun p hp=>by
   have h4:=amE s (p:Int) x
   rw [hy]at h4
   have h5:=hv p (List.mem_cons_of_mem _ hp)
   have m7:p≠s:=fun h=>hs (h▸hp)
   have h6:(((p:Int)-s)*V (p:Int) y).natAbs≤2*A:=by
    have:((p:Int)-s)*V (p:Int) y=V (p:Int) x-V (s:Int) x:=by omega
    rw [this]
    omega
   rw [Int.natAbs_mul]at h6
   exact Nat.le_trans (Nat.le_mul_of_pos_left _ (by omega)) h6
  rw [List.length_cons]at hl ⊢
  have h4:=LP K P (2*A) y hd (fun p hp=>hK p (List.mem_cons_of_mem _ hp)) (by omega) h3
  have hP:1≤(2*(K+1))^P.length:=Nat.one_le_pow _ _ (by omega)
  have h5:=E8 (s:=s) (M:=2*A*(2*(K+1))^P.length) (x:=x) (by
   have:A*1≤2*A*(2*(K+1))^P.length:=Nat.mul_le_mul (by omega) hP
   omega) (fun d hd=>by
   rw [h1]at hd
   rcases List.mem_append.1 hd with hd | hd
   ·exact h4 d hd
   ·simp at hd;subst hd;simp) c hc
  refine Nat.le_trans h5 ?_
  rw [Nat.pow_succ]
  have h6:A*((2*(K+1))^P.length*(2*(K+1)))=(2*A*(2*(K+1))^P.length)*(K+1):=by grind
  rw [h6]
  exact Nat.mul_le_mul_left _ (by have:=hK s (List.mem_cons_self ..);omega)
theorem E9{α:Type}(p:α→Bool):∀l:List α,(l.filter p).length+(l.filter fun x => !p x).length=l.length
 | []=>rfl
 | a::l=>by
  have:=E9 p l
  cases h:p a<;>simp [h]<;>omega
theorem ajK{x:List Int}(hx:aP x ≠ []){n:Nat}(hl:x.length≤n):∃P:List Nat,P.Nodup∧(∀p∈P,p≤2*n-1)∧P.length=n ∧ ∀p∈P,V (p:Int) x≠0:=by
 have h1:=E9 (fun p:Nat=>decide (V (p:Int) x=0)) (List.range (2*n))
 have h2:((List.range (2*n)).filter fun p:Nat=>decide (V (p:Int) x=0)).length<n:=Nat.not_le.1 fun h=>hx (by
  have h3:=LP (2*n) ((List.range (2*n)).filter fun p:Nat=>decide (V (p:Int) x=0)) 0 x (List.nodup_range.filter _) (fun p hp=>by have:=List.mem_range.1 (List.mem_filter.1 hp).1;omega) (by omega) (fun p hp=>by have:=of_decide_eq_true (List.mem_filter.1 hp).2;rw [this];decide)
  have h4:∀l:List Int,(∀c∈l,c.natAbs≤0*(2*(2*n+1))^((List.range (2*n)).filter fun p:Nat=>decide (V (p:Int) x=0)).length)→aP l = []:=fun l=>by
   induction l with
   | nil=>intro _;rfl
   | cons a l ih =>
    intro h
    have h5:=h a (List.mem_cons_self ..)
    rw [Nat.zero_mul]at h5
    rw [aP,ih fun c hc=>h c (List.mem_cons_of_mem _ hc),if_pos ⟨rfl,by omega⟩]
  exact h4 x h3)
 rw [List.length_range]at h1
 have h3:n≤((List.range (2*n)).filter fun p:Nat => !decide (V (p:Int) x=0)).length:=by omega
 refine⟨((List.range (2*n)).filter fun p:Nat => !decide (V (p:Int) x=0)).take n,(List.take_sublist _ _).nodup (List.nodup_range.filter _),fun p hp=>?_,by rw [List.length_take];omega,fun p hp=>?_⟩
 ·have:=List.mem_range.1 (List.mem_filter.1 (List.mem_of_mem_take hp)).1;omega
 ·have:=(List.mem_filter.1 (List.mem_of_mem_take hp)).2
  simpa using this
namespace ZX
theorem afp{a w g:ZX}{h n l:Nat}(ha:a≠0)(e:a=w*g)(hH:∀d∈a.l,d.natAbs≤2^h)(hN:N a≤n)(hn:n≤2^l):∀c∈g.l,c.natAbs≤2^(h+n*(2*l+3)):=by
 intro c hc
 have hw:w≠0∧g≠0:=⟨fun h0=>ha (by rw [e,h0];grind),fun h0=>ha (by rw [e,h0];grind)⟩
 have hlen:g.l.length≤n:=by
  have h1:N a=N w+N g-1:=by rw [e,jT hw.1 hw.2]
  have h2:=aF.1 hw.1
  show N g≤n
  omega
 have hn0:1≤n:=by have:=aF.1 ha;omega
 obtain⟨P,p1,p2,p3,p4⟩:=ajK (x:=a.l) (n:=n) (by
  rw [show aP a.l=a.l from a.c]
  have:=aF.1 ha
  intro h0
  have h3:N a=a.l.length:=rfl
  rw [h3,h0]at this;simp at this) hN
 have hv:∀p∈P,(V (p:Int) g.l).natAbs≤2^h*(2^(l+1))^n:=fun p hp=>by
  have h1:V (p:Int) a.l=V (p:Int) w.l*V (p:Int) g.l:=by
   conv=>lhs;rw [e]
   rw [eM]
  have h2:=p4 p hp
  have h3:(V (p:Int) g.l).natAbs≤(V (p:Int) a.l).natAbs:=by
   rw [h1,Int.natAbs_mul]
   have:V (p:Int) w.l≠0:=fun h0=>h2 (by rw [h1,h0,Int.zero_mul])
   exact Nat.le_mul_of_pos_left _ (by omega)
  refine Nat.le_trans h3 (Nat.le_trans (QS hH) (Nat.mul_le_mul_left _ ?_))
  have h4:1+p≤2^(l+1):=by have:=p2 p hp;rw [Nat.pow_succ];omega
  exact Nat.le_trans (Nat.pow_le_pow_left h4 _) (Nat.pow_le_pow_right (Nat.two_pow_pos _) hN)
 have h5:=LP (2*n-1) P _ g.l p1 p2 (by omega) hv c hc
 refine Nat.le_trans h5 ?_
 rw [p3]
 have h7:2*(2*n-1+1)≤2^(l+2):=by rw [Nat.pow_add];omega
 have h8:(2*(2*n-1+1))^n≤(2^(l+2))^n:=Nat.pow_le_pow_left h7 _
 refine Nat.le_trans (Nat.mul_le_mul_left _ h8) (Nat.le_of_eq ?_)
 rw [←Nat.pow_mul,←Nat.pow_mul,←Nat.pow_add,←Nat.pow_add]
 congr 1
 grind
theorem aqw{a w g:ZX}{h n:Nat}(ha:a≠0)(e:a=w*g)(hb:Bd 2 h n a.l)(hn:n+1≤2^h):Bd 2 (h+n*(2*h+5)+1) n g.l:=by
 have hw:w≠0∧g≠0:=⟨fun h0=>ha (by rw [e,h0];grind),fun h0=>ha (by rw [e,h0];grind)⟩
 refine⟨?_,fun c hc=>?_⟩
 ·have h1:N a=N w+N g-1:=by rw [e,jT hw.1 hw.2]
  have h2:=aF.1 hw.1
  have h3:N a≤n:=hb.len
  show N g≤n
  omega
 ·have h1:=afp (h:=h) (n:=n) (l:=h) ha e (fun d hd=>by
   have h1:=jH (b:=2) (by decide) d
   have h2:=xG (b:=2) (by decide) (hb.sz d hd)
   omega) hb.len (by omega) c hc
  refine dV (by decide) (Nat.lt_of_le_of_lt h1 (Nat.pow_lt_pow_right (by decide) ?_))
  have:n*(2*h+3)≤n*(2*h+5):=Nat.mul_le_mul_left _ (by omega)
  omega
end ZX
end Pm
namespace Go.Proofs.YtiobceocpabjdaaGreat
open Go Pm
open ZX hiding N W
structure Nf(a:ZX):Prop where
 ne:a≠0
 g:bO a.l=1
 l:0<lead a.l
theorem wD{a:ZX}(h:a≠0):a.l ≠ []:=fun e=>by
 have:=aF.1 h
 have h2:ZX.N a=a.l.length:=rfl
 rw [h2,e]at this;simp at this
theorem aqx(x:List Int):Cn (s9 x):=Cn.cut _
def nf(a:ZX):ZX:=⟨s9 a.l,aqx _⟩
theorem lM:nf 0=0:=ZX.ext fun t=>rfl
theorem QU{a:ZX}(ha:a≠0):K (mD a.l)*nf a=a:=ZX.ext fun t=>by
 rw [eM,wR]
 conv=>rhs;rw [←abv a.c (wD ha)]
 rw [cU,Int.mul_comm];rfl
theorem rB{a:ZX}(ha:a≠0):mD a.l≠0:=VB a.c (wD ha)
theorem amF{a:ZX}(ha:a≠0):nf a≠0:=fun h=>ha (by rw [←QU ha,h];grind)
theorem jV{a:ZX}(ha:a≠0):Nf (nf a):=⟨amF ha,ajB a.c (wD ha),ae8 a.c (wD ha)⟩
theorem Nf.nfe{a:ZX}(h:Nf a):nf a=a:=by
 have h1:mD a.l=1:=by
  unfold mD
  rw [if_neg (by have:=h.l;omega),h.g];rfl
 have:=QU h.ne
 rw [h1]at this
 rw [←this]
 conv=>lhs;rw [this]
 show _=(1:ZX)*_
 grind
theorem afq{c:Int}(hc:c≠0)(a:ZX):ZX.N (K c*a)=ZX.N a:=by
 by_cases ha:a=0
 ·rw [ha,show K c*(0:ZX)=0 by grind]
 ·rw [jT (pM hc) ha,N_K hc];have:=aF.1 ha;omega
theorem zS(a:ZX):ZX.N (nf a)=ZX.N a:=by
 by_cases ha:a=0
 ·rw [ha,lM]
 ·have:=afq (rB ha) (nf a)
  rw [QU ha]at this
  exact this.symm
theorem K_l{c:Int}(hc:c≠0)(a:ZX):(K c*a).l=a.l.map (· * c):=by
 refine Cn.ext (K c*a).c (mB a.c hc) fun t=>?_
 rw [eM,wR,eK,Int.mul_comm]
theorem afr{c:Int}(hc:c≠0){a:ZX}(ha:a≠0):lead (K c*a).l=c*lead a.l:=by
 have h:(K c*a).l=bR (K c).l a.l:=rfl
 have hK:(K c).l = [c]:=by show aP [c] = [c];exact jD hc []
 rw [h,zE (K c).c a.c (by rw [hK];simp) (aF.1 ha),hK]
 rfl
theorem Nf.LQ{a b:ZX}(ha:Nf a)(hb:Nf b){c d:Int}(hc:c≠0)(hd:d≠0)(e:K c*a=K d*b):a=b:=by
 have h1:c.natAbs=d.natAbs:=by
  have h2:bO (K c*a).l=bO (K d*b).l:=by rw [e]
  rw [K_l hc,K_l hd,mC,mC,ha.g,hb.g]at h2
  omega
 have h3:c*lead a.l=d*lead b.l:=by rw [←afr hc ha.ne,←afr hd hb.ne,e]
 have h4:c=d:=by
  rcases Int.natAbs_eq_natAbs_iff.1 h1 with h5 | h5
  ·exact h5
  ·exfalso
   subst h5
   have hl:=ha.l
   have G2:=hb.l
   rcases Int.lt_or_gt_of_ne hd with h6 | h6
   ·have:=Int.mul_pos (show 0 < -d by omega) hl
    have:=Int.mul_neg_of_neg_of_pos h6 G2
    omega
   ·have:=Int.mul_neg_of_neg_of_pos (show -d<0 by omega) hl
    have:=Int.mul_pos h6 G2
    omega
 subst h4
 exact ZX.cancel (pM hc) e
theorem ajL{a b:ZX}{c d:Int}(ha:a≠0)(hc:c≠0)(hd:d≠0)(e:K c*a=K d*b):nf a=nf b:=by
 have hb:b≠0:=fun h=>by
  rw [h,show K d*(0:ZX)=0 by grind]at e
  exact mE (pM hc) ha e
 refine Nf.LQ (jV ha) (jV hb) (c:=c*mD a.l) (d:=d*mD b.l) (Int.mul_ne_zero hc (rB ha)) (Int.mul_ne_zero hd (rB hb)) ?_
 rw [←qF,←qF]
 have h1:=QU ha
 have h2:=QU hb
 grind
theorem QV(a:ZX):nf (nf a)=nf a:=by
 by_cases ha:a=0
 ·rw [ha,lM,lM]
 ·exact(jV ha).nfe
theorem I0(a:ZX):dv a (nf a)∧dv (nf a) a:=by
 by_cases ha:a=0
 ·rw [ha,lM];exact⟨dv.refl 0,dv.refl 0⟩
 ·have h:=QU ha
  exact⟨⟨mD a.l,rB ha,1,by rw [h];grind⟩,⟨1,by decide,K (mD a.l),by rw [h];show(1:ZX)*a=a;grind⟩⟩
theorem tD{a b:ZX}(h1:dv a b)(h2:dv b a):nf a=nf b:=by
 by_cases ha:a=0
 ·subst ha;rw [CD h1]
 ·obtain⟨c,hc,q,e⟩:=h2
  have h3:=h1.mF (fun hb=>ha (by subst hb;exact CD ⟨c,hc,q,e⟩))
  have h4:=dv.mF ⟨c,hc,q,e⟩ ha
  obtain⟨hq,hb⟩:=nO hc ha e
  have h5:=afq hc a
  rw [e,jT hq hb]at h5
  have:=aF.1 hq
  have:=aF.1 hb
  obtain⟨d,hd,rfl⟩:=lL (x:=q) (by omega)
  exact ajL ha hc hd e
theorem Nf.one:Nf 1:=⟨q9,by decide,by decide⟩
theorem Nf.mul{a b:ZX}(ha:Nf a)(hb:Nf b):Nf (a*b):=by
 refine⟨mE ha.ne hb.ne,?_,?_⟩
 ·show bO (bR a.l b.l)=1
  rw [ae7 a.c b.c (wD ha.ne) (wD hb.ne),ha.g,hb.g]
 ·show 0<lead (bR a.l b.l)
  rw [zE a.c b.c (aF.1 ha.ne) (aF.1 hb.ne)]
  exact Int.mul_pos ha.l hb.l
theorem YU{p a:ZX}(hp:pN p)(ha:a≠0):mu p (nf a)=mu p a:=by
 conv=>rhs;rw [←QU ha]
 rw [tC hp (pM (rB ha)) (amF ha),abD hp (rB ha)];omega
theorem Nf.tE{a b:ZX}(ha:Nf a)(hb:Nf b)(h:∀p,pN p→mu p a=mu p b):a=b:=by
 rw [←ha.nfe,←hb.nfe]
 exact tD ((kR ha.ne hb.ne).2 fun p hp=>by have:=h p hp;omega) ((kR hb.ne ha.ne).2 fun p hp=>by have:=h p hp;omega)
theorem Nf.quo{a b:ZX}(ha:Nf a)(hb:Nf b)(h:dv b a):∃w,Nf w∧a=w*b:=by
 obtain⟨c,hc,q,e⟩:=h
 obtain⟨hq,_⟩:=nO hc ha.ne e
 refine⟨nf q,jV hq,Nf.LQ ha ((jV hq).mul hb) hc (rB hq) ?_⟩
 have:=QU hq
 grind
theorem Nf.exact{a b w:ZX}(hb:Nf b)(e:a=w*b):exact a.l b.l=some w.l:=by
 subst e
 exact VE w.c b.c (aF.1 hb.ne)
theorem Nf.N1{a:ZX}(ha:Nf a)(h:ZX.N a≤1):a=1:=by
 obtain⟨c,hc,rfl⟩:=lL (x:=a) (by have:=aF.1 ha.ne;omega)
 exact Nf.LQ ha Nf.one (show (1:Int)≠0 by decide) hc (by show(1:ZX)*_=K c*1;grind)
noncomputable def gz(a b:ZX):ZX:=nf (Classical.choose (kA _ a b (Nat.le_refl _)))
theorem uH(a b:ZX):∃g,r6 g a b∧gz a b=nf g:=⟨_,Classical.choose_spec (kA _ a b (Nat.le_refl _)),rfl⟩
theorem YV{g a b:ZX}(h:r6 g a b):gz a b=nf g:=by
 obtain⟨g',h',e⟩:=uH a b
 rw [e]
 obtain⟨h1,h2⟩:=h'.assoc h
 exact tD h1 h2
theorem r6.aw2{g g' a b:ZX}(h:r6 g a b)(h1:dv g g')(h2:dv g' g):r6 g' a b:=by
 obtain⟨c,hc,u,v,e⟩:=h.uv
 obtain⟨d,hd,w,e2⟩:=h1
 exact⟨h2.trans h.l,h2.trans h.r,c*d,Int.mul_ne_zero hc hd,w*u,w*v,by rw [←qF];grind⟩
theorem fA(a b:ZX):r6 (gz a b) a b:=by
 obtain⟨g,h,e⟩:=uH a b
 rw [e]
 obtain⟨h1,h2⟩:=I0 g
 exact r6.aw2 h h1 h2
theorem aw3{a b:ZX}(h:a≠0∨b≠0):gz a b≠0:=(fA a b).ne h
theorem FA{a b:ZX}(h:a≠0∨b≠0):Nf (gz a b):=by
 have h0:=aw3 h
 obtain⟨g,h,e⟩:=uH a b
 rw [e]at h0 ⊢
 exact jV (fun hg=>h0 (by rw [hg,lM]))
theorem LR(a b:ZX):gz a b=gz b a:=by
 have h:=fA a b
 rw [YV h.symm]
 obtain⟨g,_,e⟩:=uH a b
 rw [e,QV]
theorem uI(a:ZX):gz a 0=nf a:=YV (r6.zero a)
theorem QW(a:ZX):gz 0 a=nf a:=by rw [LR,uI]
theorem FB{a b a' b':ZX}(h1:dv a a')(h2:dv a' a)(h3:dv b b')(h4:dv b' b):gz a b=gz a' b':=by
 obtain⟨g,hg,e⟩:=uH a b
 rw [e,YV (hg.congr h1 h2 h3 h4)]
theorem YW(a b:ZX):gz (nf a) b=gz a b:=FB (I0 a).2 (I0 a).1 (dv.refl b) (dv.refl b)
theorem VI(a b:ZX):gz a (nf b)=gz a b:=FB (dv.refl a) (dv.refl a) (I0 b).2 (I0 b).1
theorem LS{a b q r:ZX}{c k:Int}(hc:c≠0)(hk:k≠0)(e:K c*a=q*b+K k*r):gz a b=gz b r:=by
 obtain⟨g,hg,e2⟩:=uH b r
 rw [e2,YV (hg.aw1 hc hk e)]
end Go.Proofs.YtiobceocpabjdaaGreat
namespace Go.Proofs.YtiobceocpabjdaaGreat
open Go Pm
open ZX hiding N W
open Classical in
noncomputable def qz(a b:ZX):ZX:=if h:∃w,Nf w∧a=w*b then h.choose else 0
theorem o7{a b:ZX}(ha:Nf a)(hb:Nf b)(h:dv b a):Nf (qz a b)∧a=qz a b*b:=by
 have h:=ha.quo hb h
 unfold qz
 rw [dif_pos h]
 exact h.choose_spec
theorem amH{a b w:ZX}(hb:Nf b)(hw:Nf w)(e:a=w*b):qz a b=w:=by
 have ha:Nf a:=by rw [e];exact hw.mul hb
 obtain⟨h1,h2⟩:=o7 ha hb ⟨1,by decide,w,by rw [e];show(1:ZX)*_=_;grind⟩
 refine ZX.cancel hb.ne ?_
 have:qz a b*b=w*b:=by rw [←h2,e]
 grind
theorem afs{a b:ZX}(ha:Nf a)(hb:Nf b)(h:dv b a):exact a.l b.l=some (qz a b).l:=Nf.exact hb (o7 ha hb h).2
theorem amI{a b p:ZX}(ha:Nf a)(hb:Nf b)(h:dv b a)(hp:pN p):mu p (qz a b)=mu p a-mu p b:=by
 obtain⟨h1,h2⟩:=o7 ha hb h
 have h3:mu p a=mu p (qz a b)+mu p b:=by
  conv=>lhs;rw [h2]
  exact tC hp h1.ne hb.ne
 omega
theorem Nf.self{a:ZX}(ha:Nf a):qz a a=1:=amH ha Nf.one (by grind)
theorem Nf.aCu{a:ZX}(ha:Nf a):qz a 1=a:=amH Nf.one ha (by grind)
noncomputable def gd(a:ZX):ZX:=gz a (bX a)
theorem YX{a:ZX}(ha:a≠0):Nf (gd a):=FA (.inl ha)
theorem BD(a:ZX):dv (gd a) a:=(fA a (bX a)).l
theorem amJ{a p:ZX}(ha:a≠0)(hp:pN p):mu p (gd a)=mu p a-1:=(fA a (bX a)).zP ha hp
theorem aCv{a:ZX}(h:2≤ZX.N a):ZX.N (gd a)<ZX.N a:=by
 have h1:=(fA a (bX a)).r.mF (LN h)
 have h2:=oE a
 have:ZX.N (gd a)=ZX.N (gz a (bX a)):=rfl
 omega
theorem aft:gd 1=1:=by
 unfold gd
 rw [YS,uI,Nf.one.nfe]
noncomputable def gs(a:ZX):Nat→ZX
 | 0=>a
 | k+1=>gd (gs a k)
theorem oF{a:ZX}(ha:Nf a):∀k,Nf (gs a k)
 | 0=>ha
 | k+1=>YX (oF ha k).ne
theorem I1(a:ZX):∀k,dv (gs a k) a
 | 0=>dv.refl a
 | k+1=>(BD _).trans (I1 a k)
theorem YZ{a p:ZX}(ha:Nf a)(hp:pN p):∀k,mu p (gs a k)=mu p a-k
 | 0=>rfl
 | k+1=>by
  show mu p (gd (gs a k))=_
  rw [amJ (oF ha k).ne hp,YZ ha hp k];omega
theorem ajM{a:ZX}:∀k,ZX.N (gs a k)≤1∨ZX.N (gs a k)+k≤ZX.N a
 | 0 => .inr (Nat.le_refl _)
 | k+1=>by
  rcases ajM (a:=a) k with h | h
  ·left
   show ZX.N (gz (gs a k) (bX (gs a k)))≤1
   by_cases h0:gs a k=0
   ·rw [h0,show bX (0:ZX)=0 from ZX.ext fun t=>rfl,uI,lM];decide
   ·exact Nat.le_trans ((fA _ _).l.mF h0) h
  ·rcases Nat.lt_or_ge (ZX.N (gs a k)) 2 with h2 | h2
   ·left
    show ZX.N (gz (gs a k) (bX (gs a k)))≤1
    by_cases h0:gs a k=0
    ·rw [h0,show bX (0:ZX)=0 from ZX.ext fun t=>rfl,uI,lM];decide
    ·exact Nat.le_trans ((fA _ _).l.mF h0) (by omega)
   ·right
    have:=aCv h2
    show ZX.N (gd (gs a k))+(k+1)≤_
    omega
open Classical in
noncomputable def nl(a:ZX):Nat:=if h:∃m,ZX.N (gs a m)≤1 ∧ ∀k,k<m→2≤ZX.N (gs a k)then h.choose else 0
theorem nP(a:ZX):ZX.N (gs a (nl a))≤1 ∧ ∀k,k<nl a→2≤ZX.N (gs a k):=by
 have h:∃m,ZX.N (gs a m)≤1 ∧ ∀k,k<m→2≤ZX.N (gs a k):=by
  have key:∀n,(∃m,m≤n∧ZX.N (gs a m)≤1 ∧ ∀k,k<m→2≤ZX.N (gs a k)) ∨ ∀k,k≤n→2≤ZX.N (gs a k):=by
   intro n
   induction n with
   | zero =>
    rcases Nat.lt_or_ge (ZX.N (gs a 0)) 2 with h | h
    ·exact .inl ⟨0,Nat.le_refl _,by omega,fun k hk=>by omega⟩
    ·exact .inr fun k hk=>by rw [show k=0 by omega];exact h
   | succ n ih =>
    rcases ih with ⟨m,h1,h2⟩ | ih
    ·exact .inl ⟨m,by omega,h2⟩
    ·rcases Nat.lt_or_ge (ZX.N (gs a (n+1))) 2 with h | h
     ·exact .inl ⟨n+1,Nat.le_refl _,by omega,fun k hk=>ih k (by omega)⟩
     ·refine .inr fun k hk=>?_
      rcases Nat.lt_or_ge k (n+1)with h3 | h3
      ·exact ih k (by omega)
      ·rw [show k=n+1 by omega];exact h
  rcases key (ZX.N a)with ⟨m,_,h⟩ | h
  ·exact⟨m,h⟩
  ·have h1:=h (ZX.N a) (Nat.le_refl _)
   rcases ajM (a:=a) (ZX.N a)with h2 | h2<;>omega
 unfold nl
 rw [dif_pos h]
 exact h.choose_spec
theorem QX(a:ZX):nl a≤ZX.N a:=by
 rcases Nat.eq_zero_or_pos (nl a)with h | h
 ·omega
 ·have h1:=(nP a).2 (nl a-1) (by omega)
  rcases ajM (a:=a) (nl a-1)with h2 | h2<;>omega
theorem QY{a:ZX}(ha:Nf a):∀j,gs a (nl a+j)=1
 | 0=>(oF ha _).N1 (nP a).1
 | j+1=>by
  show gd (gs a (nl a+j))=1
  rw [QY ha j,aft]
noncomputable def wz(a:ZX)(k:Nat):ZX:=qz (gs a k) (gs a (k+1))
theorem gR{a:ZX}(ha:Nf a)(k:Nat):Nf (wz a k)∧gs a k=wz a k*gs a (k+1):=o7 (oF ha k) (oF ha (k+1)) (BD _)
theorem QZ{a p:ZX}(ha:Nf a)(hp:pN p)(k:Nat):mu p (wz a k)=if k<mu p a then 1 else 0:=by
 rw [wz,amI (oF ha k) (oF ha (k+1)) (BD _) hp,YZ ha hp,YZ ha hp]
 split<;>omega
theorem aw4{a:ZX}(ha:Nf a)(j:Nat):wz a (nl a+j)=1:=by
 rw [wz,QY ha j,Nat.add_assoc,QY ha (j+1),Nf.one.self]
theorem Q0{a:ZX}(ha:Nf a)(k:Nat):dv (wz a (k+1)) (wz a k):=(kR (gR ha _).1.ne (gR ha _).1.ne).2 fun p hp=>by
 rw [QZ ha hp,QZ ha hp]
 split<;>split<;>omega
noncomputable def oP(a:ZX)(k:Nat):ZX:=qz (wz a k) (wz a (k+1))
theorem CF{a:ZX}(ha:Nf a)(k:Nat):Nf (oP a k)∧wz a k=oP a k*wz a (k+1):=o7 (gR ha k).1 (gR ha (k+1)).1 (Q0 ha k)
theorem aw5{a p:ZX}(ha:Nf a)(hp:pN p)(k:Nat):mu p (oP a k)=if mu p a=k+1 then 1 else 0:=by
 rw [oP,amI (gR ha k).1 (gR ha (k+1)).1 (Q0 ha k) hp,QZ ha hp,QZ ha hp]
 split<;>split<;>split<;>omega
theorem ajN{a:ZX}(ha:Nf a){k:Nat}(h:k+1=nl a):oP a k=wz a k:=by
 rw [oP,h,show nl a=nl a+0 from rfl,aw4 ha 0,(gR ha k).1.aCu]
noncomputable def fl(a:ZX):List ZX:=(List.range (nl a)).map (oP a)
theorem Q3{a p:ZX}(ha:Nf a)(hp:pN p):mu p a≤nl a:=by
 have h:=YZ ha hp (nl a)
 have h1:=QY ha 0
 rw [Nat.add_zero]at h1
 rw [h1,LO hp]at h
 omega
noncomputable def pf(a:ZX)(c:Nat→Bool):Nat→ZX
 | 0=>1
 | k+1=>if c k then pf a c k*oP a k else pf a c k
theorem BE{a:ZX}(ha:Nf a)(c:Nat→Bool):∀k,Nf (pf a c k)
 | 0=>Nf.one
 | k+1=>by
  rw [pf]
  split
  ·exact(BE ha c k).mul (CF ha k).1
  ·exact BE ha c k
theorem Y1{a p:ZX}(ha:Nf a)(hp:pN p)(c:Nat→Bool):∀k,mu p (pf a c k)=if 1≤mu p a∧mu p a≤k∧c (mu p a-1)=true then 1 else 0
 | 0=>by
  rw [pf,LO hp,if_neg (by omega)]
 | k+1=>by
  have ih:=Y1 ha hp c k
  have hf:=aw5 ha hp k
  rw [pf]
  by_cases hc:c k=true
  ·rw [if_pos hc,tC hp (BE ha c k).ne (CF ha k).1.ne,ih,hf]
   by_cases h1:mu p a=k+1
   ·rw [if_pos h1,h1,Nat.add_sub_cancel,if_neg (by omega),if_pos ⟨by omega,Nat.le_refl _,hc⟩]
   ·rw [if_neg h1]
    by_cases h2:1≤mu p a∧mu p a≤k∧c (mu p a-1)=true
    ·rw [if_pos h2,if_pos ⟨h2.1,by omega,h2.2.2⟩]
    ·rw [if_neg h2,if_neg (fun h3=>h2 ⟨h3.1,by omega,h3.2.2⟩)]
  ·rw [if_neg hc,ih]
   by_cases h1:mu p a=k+1
   ·rw [h1,Nat.add_sub_cancel,if_neg (by omega),if_neg (fun h3=>hc h3.2.2)]
   ·by_cases h2:1≤mu p a∧mu p a≤k∧c (mu p a-1)=true
    ·rw [if_pos h2,if_pos ⟨h2.1,by omega,h2.2.2⟩]
    ·rw [if_neg h2,if_neg (fun h3=>h2 ⟨h3.1,by omega,h3.2.2⟩)]
noncomputable def oz(a:ZX):ZX:=pf a (fun k=>k%2==0) (nl a)
noncomputable def sz'(a:ZX):ZX:=wz a 0
theorem afu{a:ZX}(ha:Nf a):Nf (oz a):=BE ha _ _
theorem afv{a:ZX}(ha:Nf a):Nf (sz' a):=(gR ha 0).1
theorem amL{a p:ZX}(ha:Nf a)(hp:pN p):mu p (oz a)=mu p a%2:=by
 have h:=Q3 ha hp
 rw [oz,Y1 ha hp]
 by_cases h1:1≤mu p a∧mu p a≤nl a∧((mu p a-1)%2==0)=true
 ·rw [if_pos h1]
  have:=h1.2.2
  simp only [beq_iff_eq]at this
  omega
 ·rw [if_neg h1]
  simp only [beq_iff_eq]at h1
  omega
theorem afw{a p:ZX}(ha:Nf a)(hp:pN p):mu p (sz' a)=min (mu p a) 1:=by
 rw [sz',QZ ha hp]
 split<;>omega
theorem aqy{a:ZX}(ha:Nf a):pf a (fun _=>true) (nl a)=sz' a:=Nf.tE (BE ha _ _) (afv ha) fun p hp=>by
 have h:=Q3 ha hp
 rw [Y1 ha hp,afw ha hp]
 by_cases h1:1≤mu p a
 ·rw [if_pos ⟨h1,h,rfl⟩];omega
 ·rw [if_neg (fun h2=>h1 h2.1)];omega
theorem Q4{a:ZX}(h:ZX.N a≤1):nl a=0:=by
 rcases Nat.eq_zero_or_pos (nl a)with h1 | h1
 ·exact h1
 ·have:=(nP a).2 0 h1
  have:ZX.N (gs a 0)=ZX.N a:=rfl
  omega
def qb(h n:Nat):Nat:=h+n*(2*h+5)+1
theorem aw6{a b:ZX}(ha:Nf a)(hb:Nf b)(hd:dv b a){h n:Nat}(hx:Bd 2 h n a.l)(hn:n+1≤2^h):Bd 2 (qb h n) n b.l:=by
 obtain⟨w,_,e⟩:=ha.quo hb hd
 exact aqw ha.ne e hx hn
theorem afx{a b:ZX}(ha:Nf a)(hb:Nf b)(h:dv b a):dv (qz a b) a:=by
 obtain⟨_,h2⟩:=o7 ha hb h
 exact⟨1,by decide,b,by rw [ZX.abB b,←h2];show(1:ZX)*_=_;grind⟩
theorem CG{a:ZX}(ha:Nf a)(k:Nat):dv (wz a k) a:=(afx (oF ha k) (oF ha (k+1)) (BD _)).trans (I1 a k)
theorem Y2{a:ZX}(ha:Nf a)(k:Nat):dv (oP a k) a:=(afx (gR ha k).1 (gR ha (k+1)).1 (Q0 ha k)).trans (CG ha k)
theorem LU{a:ZX}(ha:Nf a)(c:Nat→Bool)(k:Nat):dv (pf a c k) a:=(kR (BE ha c k).ne ha.ne).2 fun p hp=>by
 rw [Y1 ha hp]
 split<;>omega
end Go.Proofs.YtiobceocpabjdaaGreat
namespace Go.Proofs.YtiobceocpabjdaaGreat
open Go Pm
theorem FC(v:Int):sz LL v≤sz 2 v:=dV gO (Nat.lt_of_lt_of_le (jH (b:=2) (by decide) v) (Nat.pow_le_pow_left (by decide) _))
theorem NI{h n:Nat}{x:List Int}(hx:Bd 2 h n x):Bd LL h n x:=⟨hx.len,fun c hc=>Nat.le_trans (FC c) (hx.sz c hc)⟩
instance:Inhabited ZX:=⟨0⟩
abbrev BZ(h n:Nat)(a:ZX):Prop:=Bd 2 h n a.l
theorem BZ.pb{h n:Nat}{a:ZX}(b:BZ h n a)(hh:h<1099511627775)(hn:n<1099511627775):PB a.l:=PB.of (NI b) hh hn
theorem BZ.ER{h n:Nat}{a:ZX}(b:BZ h n a)(hh:h<1099511627775)(hn:n<1099511627775):rW (a.l.map uW):=(b.pb hh hn).ER
theorem BF(a:ZX):nT (a.l.map uW)=a.l:=by rw [ajz];exact a.c
theorem BZ.mono{h h' n n':Nat}{a:ZX}(b:BZ h n a)(hh:h≤h')(hn:n≤n'):BZ h' n' a:=Bd.mono b hh hn
theorem BZ.nf{h n:Nat}{a:ZX}(b:BZ h n a):BZ h n (nf a):=afj b
theorem BZ.N{h n:Nat}{a:ZX}(b:BZ h n a):ZX.N a≤n:=Bd.len b
theorem afy{h n:Nat}{a:ZX}(b:BZ h n a)(hh:h<1099511627774)(hn:n<1099511627774)(k:Nat)(hk:k+1<a.l.length):aE env.P 164 [.int .i64 (k:Int), .rd [Po a.l]] (I (nth a.l (k+1)*((k+1:Nat):Int))):=by
 have hlen:=b.len
 have hz:=(NI b).nth (k+1)
 have o1:=EH ((k+1:Nat):Int) (by omega) (by omega)
 have hk1:Sz ((k+1:Nat):Int):=Nat.lt_of_le_of_lt (dV (k:=2) gO (by rw [Int.natAbs_natCast];show k+1<4294967296^2;omega)) (by decide)
 have m1:=xO (x:=nth a.l (k+1)) (y:=((k+1:Nat):Int)) (by show Pm.sz LL _<_;omega) hk1
 have e:((k:Int)+1).toNat=k+1:=by omega
 rw [Int.natCast_add,Int.natCast_one]at o1 m1
 refine cB [(0, .int .i64 (k:Int)),(1, .rd [Po a.l])] Tryz.func164 ?_
 generalize a.l=x at *
 refine aA [0,1,3] ?_
 refine W.sd ?_
 simp (disch:=omega) [gw,e]
 refine cM o1 ?_
 refine cN [3] m1 ?_
 exact bZ
theorem rC{h n:Nat}{a:ZX}(b:BZ h n a)(hh:h<1099511627774)(hn:n<1099511627774):aE env.P 85 [Po a.l] (Po (ZX.bX a).l):=by
 have hlen:=b.len
 have hc:=fun k hk=>afy b hh hn k hk
 have hE:=s5 164 rfl [.rd [Po a.l]] rfl (a.l.length-1) (by omega) (fun k=>nth a.l (k+1)*((k+1:Nat):Int)) (fun k hk=>hc k (by omega))
 have e0:aP ((List.range (a.l.length-1)).map fun k=>nth a.l (k+1)*((k+1:Nat):Int))=(ZX.bX a).l:=rfl
 rw [e0]at hE
 generalize (ZX.bX a).l=d at *
 generalize a.l=x at *
 have e1:(if (1:Int)<(x.length:Int)then(x.length:Int)-1 else 0)=((x.length-1:Nat):Int):=by split<;>omega
 refine cB [(0,Po x)] Tryz.func85 ?_
 refine aA [1] ?_
 refine W.sr ?_
 simp (disch:=omega) [gw,e1]
 refine cN [2] hE ?_
 exact bZ
theorem VJ{α:Type}{g:α→List PV}{l:List α}{c:Int}{d:List Int}(h1:aE env.P 137 [aH g l] (.dX [I c,Po d])):aE env.P 140 [aH g l] (Po d):=by
 refine cB [(0,aH g l)] Tryz.func140 ?_
 refine aA [0] ?_
 refine aL [4] h1 ?_
 refine aA [2] ?_
 exact bZ
theorem nV{h n:Nat}{a:ZX}(b:BZ h n a)(hh:h<1099511627774)(hn:n<1099511627774):aE env.P 140 [Po a.l] (Po (nf a).l):=by
 have h1:=vH (a.l.map uW) (b.ER (by omega) (by omega)) (s:=h) (n:=n) (by rw [cI];exact NI b) hh hn
 rw [BF,←i5]at h1
 exact VJ h1
theorem Y3{h h' n:Nat}{a c:ZX}(b:BZ h n a)(b':BZ h' n c)(ha:Nf a)(hc:Nf c)(hd:ZX.dv c a)(hB:h+n*(h'+n+1)+h'+n+n+10<1099511627774):aE env.P 141 [Po a.l,Po c.l] (Po (qz a c).l):=by
 have h0:¬c.l = []:=wD hc.ne
 have h1:=abu (a.l.map uW) (c.l.map uW) (b.ER (by omega) (by omega)) (b'.ER (by omega) (by omega)) (s:=h) (s':=h') (N:=n) (by rw [cI];exact NI b) (by rw [cI];exact NI b') hB
 rw [BF,BF,if_neg h0,afs ha hc hd,←i5,←i5,exR]at h1
 generalize (qz a c).l=d at *
 generalize a.l=x at *
 generalize c.l=y at *
 refine cB [(0,Po x),(1,Po y)] Tryz.func141 ?_
 refine aA [0,1] ?_
 refine aL [5] h1 ?_
 refine aA [4] ?_
 exact bZ
def rs(a c:ZX):ZX:=⟨QH a.l c.l,aqo _ _⟩
theorem FD{x:List Int}(cx:Cn x)(hx:x ≠ []):(kW x).map (· * (bO x:Int))=x:=by
 have hg:=cV cx hx
 have h1:=CC (g:=(bO x:Int)) (fun c hc=>i6 x c hc)
 have h2:Cn (x.map (qY (bO x))):=by
  have h3:x.map (qY (bO x))=aP (x.map (qY (bO x))):=by
   refine(List.map_inj_right (f:=fun v:Int=>v*(bO x:Int)) (fun u v e=>Int.eq_of_mul_eq_mul_right (by omega) e)).1 ?_
   rw [h1]
   refine Cn.ext cx (mB (Cn.cut _) (by omega)) fun t=>?_
   rw [eK,dE,←eK,h1]
  exact h3.symm
 rw [kW,show aP (x.map (qY (bO x)))=_ from h2,h1]
theorem ajO{a c:ZX}(hc:c≠0):∃(m k:Int) (q:ZX),m≠0∧k≠0∧ZX.K m*a=q*c+ZX.K k*rs a c:=by
 have h0:=ZX.aF.1 hc
 obtain⟨c1,c2⟩:=D9 (b:=c.l) a.c
 have hm:lead c.l^j8 a.l c.l≠0:=Int.pow_ne_zero (dH c.c h0)
 have Q5:=ae3 (lead c.l) (j8 a.l c.l)
 have hr:=ae4 (b:=c.l) a.c
 have hV:=fun t=>aem t a.l c.l
 have hg:sg (lead c.l) (j8 a.l c.l)≠0:=fun h=>by rw [h]at Q5;simp at Q5
 generalize sg (lead c.l) (j8 a.l c.l)=g at *
 generalize lead c.l^j8 a.l c.l=m at *
 have hl:(rs a c).l=kW (a9 (AX a.l c.l).2 g):=hr
 generalize rs a c=R at *
 generalize (AX a.l c.l).1=q at *
 generalize (AX a.l c.l).2=r at *
 have GJ:Cn (a9 r g):=Cn.a9 _ _
 by_cases hz:a9 r g = []
 ·refine⟨m,1,⟨q,c1⟩,hm,by decide,ZX.ext fun t=>?_⟩
  rw [hz]at hl
  have h1:V t R.l=0:=by rw [hl];rfl
  have h2:V t r=0:=by
   have h3:V t (a9 r g)=0:=by rw [hz];rfl
   rw [cU]at h3
   rcases Int.mul_eq_zero.1 h3 with h4 | h4
   ·exact h4
   ·exact absurd h4 hg
  rw [ZX.eM,ZX.wR,ZX.nI,ZX.eM,ZX.eM,ZX.wR,h1]
  have:=hV t
  rw [h2]at this
  show m*V t a.l=V t q*V t c.l+1*0
  omega
 ·have hgp:=cV GJ hz
  refine⟨m,g*(bO (a9 r g):Int),⟨q,c1⟩,hm,Int.mul_ne_zero hg (by omega),ZX.ext fun t=>?_⟩
  have h1:=FD GJ hz
  have h2:V t (a9 r g)=V t R.l*(bO (a9 r g):Int):=by
   rw [hl,←eK,h1]
  rw [cU]at h2
  rw [ZX.eM,ZX.wR,ZX.nI,ZX.eM,ZX.eM,ZX.wR]
  have:=hV t
  show m*V t a.l=V t q*V t c.l+g*(bO (a9 r g):Int)*V t R.l
  rw [←this]
  have h3:V t r=g*(V t r*g):=by
   have:g*(V t r*g)=V t r*(g*g):=by grind
   rw [this,Q5];omega
  rw [h3,h2];grind
theorem aw7{a c:ZX}(hc:c≠0):ZX.N (rs a c)<ZX.N c:=ajA (ZX.aF.1 hc)
theorem jW{s n:Nat}{x:List Int}(hx:Bd 2 s n x):Bd 2 s n (kW x):=Bd.cut ⟨by simpa using hx.len,fun c hc=>by
 simp only [List.mem_map]at hc
 obtain⟨v,hv,rfl⟩:=hc
 refine Nat.le_trans (dY (by decide) ?_) (hx.sz v hv)
 unfold qY
 split
 ·exact Int.natAbs_ediv_le_natAbs _ _
 ·simp⟩
theorem aw8{s s' n:Nat}{a c:ZX}(ha:BZ s n a)(hb:BZ s' n c)(hc:c≠0):BZ (s+(ZX.N a+1-ZX.N c)*(s'+n+1)) n (rs a c):=by
 have h0:=ZX.aF.1 hc
 have hl:=aw7 (a:=a) hc
 have hk:j8 a.l c.l≤n:=by
  have h1:=ha.N
  have h2:j8 a.l c.l=ZX.N a+1-ZX.N c:=rfl
  omega
 obtain⟨_,h2⟩:=ael (B:=2) (by decide) hb (j8 a.l c.l) s [] a.l hk ⟨by simp,fun c hc=>by cases hc⟩ (ha.mono (Nat.le_refl _) (by omega))
 have h3:Bd 2 (s+j8 a.l c.l*(s'+n+1)) (n+n) (QH a.l c.l):=by
  unfold QH
  split
  ·exact jW (Bd.iH h2)
  ·exact jW h2
 have h4:=hb.N
 have h5:ZX.N (rs a c)=(QH a.l c.l).length:=rfl
 exact⟨by show(QH a.l c.l).length≤n;omega,fun d hd=>h3.sz d hd⟩
theorem afz{d:Nat}(h:1≤d):d+2≤4^d:=by
 obtain⟨k,rfl⟩:∃k,d=k+1:=⟨d-1,by omega⟩
 clear h
 induction k with
 | zero=>decide
 | succ k ih=>rw [Nat.pow_succ];omega
def B3(C n s:Nat)(a c:ZX):Prop:=if ZX.N c<ZX.N a then(s+n+1)*4^ZX.N a≤C else(s+n+1)*2*4^ZX.N c≤C
theorem B3.le{C n s:Nat}{a c:ZX}(h:B3 C n s a c):s+n+1≤C:=by
 unfold B3 at h
 split at h
 ·exact Nat.le_trans (Nat.le_mul_of_pos_right _ (Nat.pow_pos (by decide))) h
 ·refine Nat.le_trans ?_ h
  rw [Nat.mul_assoc]
  exact Nat.le_mul_of_pos_right _ (Nat.mul_pos (by decide) (Nat.pow_pos (by decide)))
theorem B3.step{C n s:Nat}{a c r:ZX}(h:B3 C n s a c)(hr:ZX.N r<ZX.N c):B3 C n (s+(ZX.N a+1-ZX.N c)*(s+n+1)) c r:=by
 unfold B3 at h ⊢
 rw [if_pos hr]
 generalize hT:s+n+1=T at *
 have e:s+(ZX.N a+1-ZX.N c)*T+n+1=(ZX.N a+1-ZX.N c+1)*T:=by
  rw [Nat.add_mul,Nat.one_mul];omega
 rw [e]
 split at h
 ·rename_i h1
  obtain⟨d,hd⟩:∃d,ZX.N a=ZX.N c+d:=⟨ZX.N a-ZX.N c,by omega⟩
  have h2:=afz (d:=d) (by omega)
  rw [hd,Nat.pow_add]at h
  have h3:(ZX.N a+1-ZX.N c+1)*T≤4^d*T:=Nat.mul_le_mul_right _ (by omega)
  refine Nat.le_trans (Nat.mul_le_mul_right _ h3) ?_
  have:4^d*T*4^ZX.N c=T*(4^ZX.N c*4^d):=by grind
  omega
 ·rename_i h1
  refine Nat.le_trans (Nat.mul_le_mul_right _ (Nat.mul_le_mul_right T (show ZX.N a+1-ZX.N c+1≤2 by omega))) ?_
  rw [Nat.mul_comm 2 T];exact h
theorem afA{s n C:Nat}{a c:ZX}(b:BZ s n a)(b':BZ s n c)(hP:B3 C n s (nf a) (nf c))(hB:(n+1)*C≤99000000000):aE env.P 142 [Po a.l,Po c.l] (Po (gz a c).l):=by
 have hC:C≤99000000000:=Nat.le_trans (Nat.le_mul_of_pos_left C (by omega)) hB
 rw [Nat.succ_mul]at hB
 have hs:=hP.le
 have p1:=nV b (by omega) (by omega)
 have p2:=nV b' (by omega) (by omega)
 have b1:=b.nf
 have b2:=b'.nf
 have hg:gz (nf a) (nf c)=gz a c:=by rw [YW,VI]
 rw [←hg]
 generalize qB:nf a=x0 at *
 generalize UR:nf c=y0 at *
 generalize hG:gz x0 y0=G at *
 refine cB [(0,Po a.l),(1,Po c.l)] Tryz.func142 ?_
 generalize a.l=al at *
 generalize c.l=cl at *
 refine aA [0,1] ?_
 refine jG ?_
 refine cM p1 ?_
 refine cN [0,1] p2 ?_
 refine W.seq ?_
 refine W.block ?_
 refine W.aY (fun k σ=>∃(x y:ZX) (s:Nat) (rows:Pm.Rows) (clk:Nat),σ=⟨fa [(0,Po x.l),(1,Po y.l)],rows,clk⟩∧BZ s n x∧BZ s n y∧B3 C n s x y∧gz x y=G∧k=ZX.N y) (ZX.N y0) ?_ ?_
 ·exact⟨_, .refl,x0,y0,s,_,_,rfl,b1,b2,hP,hG,rfl⟩
 rintro k _ ⟨x,y,s,rows,clk,rfl,bx,uJ,hp,hgz,rfl⟩
 have hs:=hp.le
 have hlx:=bx.len
 have hly:=uJ.len
 refine aK [0,1,13] ?_
 refine bH ?_ ?_<;>intro h
 ·have hy:y≠0:=ZX.aF.2 (by show 0<y.l.length;simp at h;omega)
  obtain⟨m,k,q,hm,hk,e⟩:=ajO (a:=x) hy
  have hR:=QJ (x.l.map uW) (y.l.map uW) (bx.ER (by omega) (by omega)) (uJ.ER (by omega) (by omega)) (s:=s) (s':=s) (N:=n) (by rw [cI];exact NI bx) (by rw [cI];exact NI uJ) (by
   have:n*(s+n+1)≤n*C:=Nat.mul_le_mul_left n hs
   omega)
  rw [BF,BF,if_neg (wD hy),←i5,←i5,show QH x.l y.l=(rs x y).l from rfl]at hR
  have br:=aw8 bx uJ hy
  have hN:=aw7 (a:=x) hy
  have SP:=hp.step hN
  have pT:=LS hm hk e
  refine W.skip ?_
  refine W.block ?_
  refine aL [1,5] hR ?_
  refine W.bY (fun K hK=>?_)
  simp (disch:=omega) [gw]
  refine hK _ ⟨ZX.N (rs x y),_,aB _ [0,1],hN,y,rs x y,_,_,_,rfl,uJ.mono (by omega) (Nat.le_refl _),br,SP,by rw [←pT,hgz],rfl⟩
 ·have hy:y=0:=by
   refine Classical.byContradiction fun h0=>?_
   have h1:=ZX.aF.1 h0
   have h2:ZX.N y=y.l.length:=rfl
   simp at h;rw [h2,h]at h1;simp at h1
  subst hy
  rw [uI]at hgz
  have p3:=nV bx (by omega) (by omega)
  rw [hgz]at p3
  refine eW ?_
  refine aL [4] p3 ?_
  exact bZ
theorem Y4{s n C:Nat}{a c:ZX}(b:BZ s n a)(b':BZ s n c)(hP:B3 C n s (nf a) (nf c))(hn:n≤20)(hC:C≤4500000000):aE env.P 142 [Po a.l,Po c.l] (Po (gz a c).l):=
 afA b b' hP (Nat.le_trans (Nat.mul_le_mul (show n+1≤21 by omega) hC) (by decide))
def zp(a:ZX):List PV:=[Po a.l]
@[simp] theorem aCw{a:ZX}:zp a = [Po a.l]:=rfl
@[simp] theorem ato{l:List ZX}:bK 1 (emap zp l)=True:=cL fun _=>rfl
@[simp] theorem aCx{l:List ZX}{a:ZX}:emap zp l ++ [[aH ie a.l]]=emap zp (l ++ [a]):=by simp [emap]
@[simp] theorem aqA{v e n:Nat}{l:List ZX}:c9 (some ⟨v,e,n,emap zp l⟩)=True:=b8 fun _=>rfl
theorem BZ.bX{h n:Nat}{a:ZX}(b:BZ h n a)(hn:n≤31):BZ (h+5) n (ZX.bX a):=Bd.cut ⟨by have:=b.len;simp [ZX.zO];omega,fun c hc=>by
 simp only [ZX.zO,List.mem_map,List.mem_range]at hc
 obtain⟨i,hi,rfl⟩:=hc
 have:=b.len
 exact cP (by decide) (b.nth _) (dV (k:=5) (by decide) (by rw [Int.natAbs_natCast];show i+1<32;omega))⟩
theorem ajP{h n:Nat}{a:ZX}(b:BZ h n a)(hn:n<1099511627776):aE env.P 83 [Po a.l] (.int .i64 ((ZX.N a:Int)-1)):=lK a.l (by have:=b.len;omega)
structure rZ(s n:Nat)(a:ZX):Prop where
 bz:BZ s n a
 hn:n≤20
 hs:n+1≤2^s
 hC:(qb s n+n+6)*4^n≤4500000000
theorem rZ.tF{s n:Nat}{a:ZX}(h:rZ s n a):qb s n+n+6≤4500000000:=Nat.le_trans (Nat.le_mul_of_pos_right _ (Nat.pow_pos (by decide))) h.hC
theorem rZ.dv{s n:Nat}{a c:ZX}(h:rZ s n a)(ha:Nf a)(hc:Nf c)(hd:ZX.dv c a):BZ (qb s n) n c:=aw6 ha hc hd h.bz h.hs
theorem rZ.nfz{s n:Nat}{a:ZX}(h:rZ s n a):rZ s n (nf a):=⟨h.bz.nf,h.hn,h.hs,h.hC⟩
theorem rZ.gdz{s n:Nat}{a c:ZX}(h:rZ s n a)(ha:Nf a)(hc:Nf c)(hd:ZX.dv c a):aE env.P 142 [Po c.l,Po (ZX.bX c).l] (Po (gd c).l)∧aE env.P 85 [Po c.l] (Po (ZX.bX c).l)∧aE env.P 141 [Po c.l,Po (gd c).l] (Po (qz c (gd c)).l):=by
 have b:=h.dv ha hc hd
 have b2:=b.bX (by have:=h.hn;omega)
 have hq:=h.tF
 have hn:=h.hn
 have bg:=h.dv ha (YX hc.ne) ((BD c).trans hd)
 refine⟨Y4 (s:=qb s n+5) (b.mono (by omega) (Nat.le_refl _)) b2 ?_ h.hn (C:=4500000000) (Nat.le_refl _),rC b (by omega) (by omega),Y3 b bg hc (YX hc.ne) (BD c) (by
  have:n*(qb s n+n+1)≤20*4500000000:=Nat.mul_le_mul hn (by omega)
  omega)⟩
 have hN:=ZX.oE c
 have h1:ZX.N c≤n:=b.N
 have h2:=ZX.aF.1 hc.ne
 unfold B3
 rw [zS,zS,if_pos (by omega)]
 refine Nat.le_trans (Nat.mul_le_mul (show qb s n+5+n+1≤qb s n+n+6 by omega) (Nat.pow_le_pow_right (by decide) h1)) h.hC
theorem VK{s n:Nat}{a:ZX}(h:rZ s n a):aE env.P 276 [Po a.l] (aH zp ((List.range (nl (nf a))).map (wz (nf a)))):=by
 have p1:=nV h.bz (by have:=h.tF;unfold qb at this;omega) (by have:=h.hn;omega)
 have hA:=h.nfz
 have hNf:2≤ZX.N (nf a)→Nf (nf a):=fun h2=>jV fun h0=>by rw [h0,lM]at h2;revert h2;decide
 have hle:=QX (nf a)
 have hbn:=hA.bz.N
 have hn:=h.hn
 generalize hAe:nf a=A at *
 refine cB [(0,Po a.l)] Tryz.func276 ?_
 refine aA [0] ?_
 refine aA [0,3] ?_
 refine W.seq ?_
 refine aL [3,4] p1 ?_
 refine W.nil 3 3 24 1 (by simp) (by decide) (fun K hK=>?_)
 refine W.lw [3,4] hK ?_;clear hK K;simp
 refine W.block ?_
 refine W.aY (fun k σ=>∃(i ver:Nat) (rows:Pm.Rows) (clk:Nat),σ=⟨fa [(3, .own 3 ver 0 i),(4,Po (gs A i).l)],rows,clk⟩∧rows 3=some ⟨ver,24,1,emap zp ((List.range i).map (wz A))⟩∧i+k=nl A) (nl A) ?_ ?_
 ·exact⟨_, .refl,0,_,_,_,rfl,by simp [emap],by omega⟩
 rintro k _ ⟨i,ver,rows,clk,rfl,hr,uA⟩
 have vX:(emap zp ((List.range i).map (wz A))).length=i:=by simp [emap]
 refine W.seq ?_
 have aqB:aE env.P 83 [Po (gs A i).l] (.int .i64 ((ZX.N (gs A i):Int)-1)):=lK (gs A i).l (by
  have h1:ZX.N (gs A i)=(gs A i).l.length:=rfl
  rcases ajM (a:=A) i with h2 | h2<;>omega)
 refine aL [3,4,10] aqB ?_
 refine W.cond ⟨_,rfl,fun h3=>?_,fun h3=>?_⟩
 ·have h2:2≤ZX.N (gs A i):=by simp at h3;omega
  have hi:i<nl A:=by
   rcases Nat.lt_or_ge i (nl A)with h4 | h4
   ·exact h4
   ·have h5:=(nP A).1
    rw [show nl A=i by omega]at h5;omega
  have hA0:2≤ZX.N A:=by
   have:=(nP A).2 0 (by omega)
   exact this
  have nA:=hNf hA0
  have ng:=oF nA i
  obtain⟨t1,t2,t3⟩:=hA.gdz nA ng (I1 A i)
  have hw:qz (gs A i) (gd (gs A i))=wz A i:=rfl
  have hs:gd (gs A i)=gs A (i+1):=rfl
  rw [hw,hs]at t3
  rw [hs]at t1
  generalize hg:(gs A i).l=g at *
  generalize pT:(gs A (i+1)).l=g2 at *
  refine W.skip ?_
  refine W.block ?_
  refine jG ?_
  refine cM t2 ?_
  refine cN [3,4,5] t1 ?_
  refine jG ?_
  refine aC t3 ?_
  simp (disch:=omega) [gw,hr,vX]
  refine bI [3,5] ?_
  refine W.bY (fun K hK=>?_);simp (disch:=omega) [gw]
  subst pT
  refine hK _ ⟨k-1,_,aB _ [3,4],by omega,i+1,_,_,_,rfl,?_,by omega⟩
  rw [List.range_succ,List.map_append]
  simp [emap,zp]
 ·have h2:ZX.N (gs A i)≤1:=by simp at h3;omega
  have hi:i=nl A:=by
   rcases Nat.lt_or_ge i (nl A)with h4 | h4
   ·have:=(nP A).2 i h4;omega
   ·omega
  rw [hi]at hr
  have yV:List.take (nl A) (List.map (wz A) (List.range (nl A)))=List.map (wz A) (List.range (nl A)):=List.take_of_length_le (by simp)
  refine eW ?_
  refine W.sr ?_
  rw [hi]
  simp (disch:=omega) [gw,hr,yV]
  refine bI [2] ?_
  refine W.ret ?_
  simp [go,hr,yV]
theorem Q6{s n:Nat}{a:ZX}(hA:rZ s n a)(na:Nf a)(k:Nat):BZ (qb s n) n (wz a k):=hA.dv na (gR na k).1 (CG na k)
theorem gK(f:Nat→ZX){m i:Nat}(h:i<m):nth ((List.range m).map f) i=f i:=by
 rw [cE (by simpa using h)];simp
theorem aw9{a:ZX}(h:0<nl (nf a)):Nf (nf a):=by
 have h1:=(nP (nf a)).2 0 h
 exact jV fun h0=>by
  rw [h0,lM]at h1
  have h2:ZX.N (gs 0 0)=0:=by decide
  omega
theorem Q7{s n:Nat}{a:ZX}(h:rZ s n a):aE env.P 273 [Po a.l] (aH zp (fl (nf a))):=by
 have hL:=VK h
 have hA:=h.nfz
 have hNf:=aw9 (a:=a)
 have hle:=QX (nf a)
 have hbn:=hA.bz.N
 have hn:=h.hn
 have hqb:=h.tF
 generalize hAe:nf a=A at *
 have F7:((List.range (nl A)).map (wz A)).length=nl A:=by simp
 have hq:∀i,i+1<nl A→aE env.P 141 [Po (nth ((List.range (nl A)).map (wz A)) i).l,Po (nth ((List.range (nl A)).map (wz A)) (i+1)).l] (Po (oP A i).l):=fun i hi=>by
  have nA:=hNf (by omega)
  rw [gK _ (by omega),gK _ hi]
  exact Y3 (Q6 hA nA i) (Q6 hA nA (i+1)) (gR nA i).1 (gR nA (i+1)).1 (Q0 nA i) (by
   have:n*(qb s n+n+1)≤20*4500000000:=Nat.mul_le_mul hn (by omega)
   omega)
 have rR:∀i,i+1=nl A→nth ((List.range (nl A)).map (wz A)) i=oP A i:=fun i hi=>by
  rw [gK _ (by omega),ajN (hNf (by omega)) hi]
 generalize hM:(List.range (nl A)).map (wz A)=M at *
 obtain⟨m,hm⟩:∃m,m=nl A:=⟨_,rfl⟩
 have hfl:(fl A)=(List.range m).map (oP A):=by rw [hm];rfl
 rw [hfl]
 rw [←hm]at F7 hq rR hle
 refine cB [(0,Po a.l)] Tryz.func273 ?_
 refine aA [0] ?_
 refine aL [3] hL ?_
 refine W.sr ?_
 simp (disch:=omega) [gw,F7]
 refine bI [3,4] ?_
 refine W.seq ?_
 refine W.sr ?_
 simp (disch:=omega) [gw,F7]
 refine bI [3,4,12,13,14] ?_
 refine W.block ?_
 refine W.aY (fun k σ=>∃(i ver:Nat) (els:List (List PV)) (rows:Pm.Rows) (clk:Nat),σ=⟨fa [(3,aH zp M),(4, .own 11 ver 0 m),(12,aH zp M),(13, .int .i64 m),(14, .int .i64 i)],rows,clk⟩ ∧
  rows 11=some ⟨ver,24,1,els⟩∧els.length=m∧(∀e∈els,e.length=1)∧els.take i=emap zp ((List.range i).map (oP A))∧i+k=m) m ?_ ?_
 ·exact⟨_, .refl,0,_,List.replicate m [.nil],_,_,rfl,by simp,by simp,by simp,by simp [emap],by omega⟩
 rintro k _ ⟨i,ver,els,rows,clk,rfl,hr,nS,NW,rX,uA⟩
 refine bT [3,4,12,13,14,15] ?_
 refine W.cond ⟨_,rfl,fun h3=>?_,fun h3=>?_⟩
 ·have hi:i<m:=by simp at h3;omega
  clear h3
  have hiM:i<M.length:=by omega
  have vX:i<els.length:=by omega
  have hE:∀e:List (List PV),e.length=m→(∀x∈e,x.length=1)→vG e i 1=True:=fun e h1 h2=>by
   simp only [eq_iff_iff,iff_true]
   exact⟨e[i]'(by omega),List.getElem?_eq_getElem (by omega),by rw [h2 _ (List.getElem_mem _)];omega⟩
  have hS:∀(e:List (List PV)) (v:PV),e.length=m→(∀x∈e,x.length=1)→iO e i 0 [v]=e.set i [v]:=fun e v h1 h2=>by
   have h4:=h2 _ (List.getElem_mem (show i<e.length by omega))
   rw [iO,List.getElem?_eq_getElem (by omega)]
   simp [List.drop_of_length_le,h4]
  have h1E:=hE els nS NW
  have h1S:=hS els (Po (nth M i).l) nS NW
  have acQ:(els.set i [Po (nth M i).l]).length=m:=by simpa using nS
  have LV:∀e∈els.set i [Po (nth M i).l],e.length=1:=fun e he=>by
   rcases List.mem_or_eq_of_mem_set he with h4 | h4
   ·exact NW e h4
   ·rw [h4];rfl
  have axa:(els.set i [Po (nth M i).l]).take i=emap zp ((List.range i).map (oP A)):=by rw [gZ (Nat.le_refl i)];exact rX
  have h2E:=hE _ acQ LV
  have h2S:=hS (els.set i [Po (nth M i).l]) (Po (oP A i).l) acQ LV
  have fin:∀(e:List (List PV)),e.length=m→(∀x∈e,x.length=1)→e.take i=emap zp ((List.range i).map (oP A))→(e.set i [Po (oP A i).l]).take (i+1)=emap zp ((List.range (i+1)).map (oP A)):=fun e h1 h2 h4=>by
   rw [mW h4 (by omega),List.range_succ,List.map_append]
   simp [emap,zp]
  refine W.skip ?_
  refine W.dW (fun σ=>∃(els:List (List PV)) (rows:Pm.Rows) (clk:Nat),σ=⟨fa [(3,aH zp M),(4, .own 11 ver 0 m),(12,aH zp M),(13, .int .i64 m),(14, .int .i64 i)],rows,clk⟩ ∧
   rows 11=some ⟨ver,24,1,els⟩∧els.length=m∧(∀e∈els,e.length=1)∧els.take (i+1)=emap zp ((List.range (i+1)).map (oP A))) ?_ ?_
  ·refine aA [3,4,5,6,12,13,14] ?_
   refine W.sr ?_
   simp (disch:=omega) [gw,hr,h1E,h1S]
   refine bI [3,4,5,6,12,13,14] ?_
   refine W.sr ?_
   simp (disch:=omega) [gw,F7]
   refine bI [3,4,5,6,12,13,14,27] ?_
   refine W.cond ⟨_,rfl,fun h3=>?_,fun h3=>?_⟩
   ·have hi1:i+1<m:=by simp at h3;omega
    have aCy:i+1<M.length:=by omega
    have e1:((i:Int)+1).toNat=i+1:=by omega
    refine W.bY (fun K hK=>?_)
    simp (disch:=omega) [gw,e1,aCy]
    refine aC (hq i hi1) ?_
    simp (disch:=omega) [gw,h2E,h2S]
    exact hK _ ⟨_,aB _ [3,4,12,13,14],_,_,_,rfl,by simp,by simpa using nS,fun e he=>by
     rcases List.mem_or_eq_of_mem_set he with h4 | h4
     ·exact LV e h4
     ·rw [h4];rfl,fin _ acQ LV axa⟩
   ·have hi1:i+1=m:=by simp at h3;omega
    refine W.skip ?_
    refine⟨_,aB _ [3,4,12,13,14],_,_,_,rfl,by simp,acQ,LV,?_⟩
    have h4:=fin els nS NW rX
    rw [←rR i hi1]at h4
    rw [h4]
  rintro _ ⟨els,rows,clk,rfl,hr,nS,NW,rX⟩
  refine W.bY (fun K hK=>?_);simp (disch:=omega) [gw]
  refine hK _ ⟨k-1,_,aB _ [3,4,12,13,14],by omega,i+1,_,_,_,_,rfl,hr,nS,NW,rX,by omega⟩
 ·have hi:i=m:=by simp at h3;omega
  subst hi
  rw [bM nS]at rX
  subst rX
  have yV:List.take i (List.map (oP A) (List.range i))=List.map (oP A) (List.range i):=List.take_of_length_le (by simp)
  refine eW ?_
  refine W.sr ?_
  simp (disch:=omega) [gw,hr,yV]
  refine bI [2] ?_
  refine W.ret ?_
  simp [go,hr,yV]
noncomputable def FE(L:List ZX):ZX:=L.foldl gz 0
theorem ajQ(L:List ZX)(hL:L.length<1099511627776)(h2:∀i,i<L.length→aE env.P 142 [Po (FE (L.take i)).l,Po (nth L i).l] (Po (FE (L.take (i+1))).l)):aE env.P 194 [aH zp L] (Po (FE L).l):=by
 refine cB [(0,aH zp L)] Tryz.func194 ?_
 refine aA [0] ?_
 refine aA [0,3] ?_
 refine W.UJ 3 (Po (FE (L.take 0)).l) (by simp) rfl (fun K hK=>?_)
 refine W.lw [0,3] hK ?_;clear hK K;simp
 refine aK [3,6,7,8] ?_
 refine W.block ?_
 refine W.aY (fun k σ=>∃(i:Nat) (rows:Pm.Rows) (clk:Nat),σ=⟨fa [(3,Po (FE (L.take i)).l),(6,aH zp L),(7, .int .i64 L.length),(8, .int .i64 i)],rows,clk⟩∧i+k=L.length) L.length ?_ ?_
 ·exact⟨_, .refl,0,_,_,by simp;exact⟨rfl,rfl⟩,by omega⟩
 rintro k _ ⟨i,rows,clk,rfl,uA⟩
 refine bT [3,6,7,8,9] ?_
 refine bH ?_ ?_<;>intro h
 ·have hi:i<L.length:=by simp at h;omega
  have ht:=h2 i hi
  generalize pT:FE (L.take (i+1))=g2 at *
  generalize FE (L.take i)=g at *
  refine j7 ?_
  refine aA [3,5,6,7,8] ?_
  refine W.bY (fun K hK=>?_)
  simp (disch:=omega) [gw]
  refine cM ht ?_
  refine W.lw [3,6,7,8] hK ?_;clear hK K;simp
  refine W.bY (fun K hK=>?_);simp (disch:=omega) [gw]
  subst pT
  refine hK _ ⟨k-1,_,aB _ [3,6,7,8],by omega,i+1,_,_,rfl,by omega⟩
 ·have hi:i=L.length:=by simp at h;omega
  subst hi
  rw [List.take_length]
  refine eW ?_
  refine aA [2] ?_
  exact bZ
theorem afB:aE env.P 11 [.sl [[.int .i64 1]]] (Po (1:ZX).l):=by
 have:=ai3 [1] (by decide) (by decide)
 exact this
noncomputable def sq(a:ZX):ZX:=if ZX.N a≤1 then nf a else sz' (nf a)
theorem Q8{α:Type}{g:α→List PV}{l:List α}{s n:Nat}{a:ZX}(h:rZ s n a)(p1:aE env.P 140 [aH g l] (Po (nf a).l)):aE env.P 70 [aH g l] (Po (sq a).l):=by
 have hqb:=h.tF
 have hn:=h.hn
 have hA:=h.nfz
 have aqB:=ajP hA.bz (by omega)
 have hsq:sq a=if ZX.N (nf a)≤1 then nf a else sz' (nf a):=by rw [zS];rfl
 have nA:2≤ZX.N (nf a)→Nf (nf a):=fun h2=>jV fun h0=>by rw [h0,lM]at h2;revert h2;decide
 rw [hsq]
 generalize nf a=A at *
 refine cB [(0,aH g l)] Tryz.func70 ?_
 refine aA [0] ?_
 refine aL [0] p1 ?_
 refine W.seq ?_
 refine aL [0,7] aqB ?_
 refine W.cond ⟨_,rfl,fun h3=>?_,fun h3=>?_⟩
 ·have h2:ZX.N A≤1:=by simp at h3;omega
  rw [if_pos h2]
  refine aA [2] ?_
  exact bZ
 ·have h2:2≤ZX.N A:=by simp at h3;omega
  obtain⟨t1,t2,t3⟩:=hA.gdz (nA h2) (nA h2) (ZX.dv.refl A)
  rw [if_neg (by omega),show sz' A=qz A (gd A)from rfl]
  generalize (gd A).l=g1 at *
  refine W.skip ?_
  refine jG ?_
  refine cM t2 ?_
  refine cM t1 ?_
  refine cN [2] t3 ?_
  exact bZ
theorem wE{s n:Nat}{a:ZX}(h:rZ s n a):aE env.P 70 [Po a.l] (Po (sq a).l):=by
 have hqb:=h.tF
 have hn:=h.hn
 exact Q8 h (nV h.bz (by unfold qb at hqb;omega) (by omega))
theorem ajR{s n:Nat}{a:ZX}(h:rZ s n a)(h0:a≠0):aE env.P 265 [Po a.l] (Po (oz (nf a)).l):=by
 have hqb:=h.tF
 have hn:=h.hn
 have vT:s<1099511627774:=by unfold qb at hqb;omega
 have p1:=nV h.bz vT (by omega)
 have hA:=h.nfz
 have nA:=jV h0
 have hF:=Q7 hA
 rw [QV]at hF
 have hle:=QX (nf a)
 have hNA:ZX.N (nf a)≤n:=hA.bz.N
 have m7:(nf a).l.length≠0:=fun h1=>by have h2:=ZX.aF.1 nA.ne;have h3:ZX.N (nf a)=(nf a).l.length:=rfl;omega
 generalize nf a=A at *
 have hmul:∀i,aE env.P 15 [Po (pf A (fun k=>k%2==0) i).l,Po (oP A i).l] (Po (pf A (fun k=>k%2==0) i*oP A i).l):=fun i=>by
  have b1:=hA.dv nA (BE nA (fun k=>k%2==0) i) (LU nA _ i)
  have b2:=hA.dv nA (CF nA i).1 (Y2 nA i)
  exact zK (NI b1) (NI b2) (by omega)
 obtain⟨m,hm⟩:∃m,m=nl A:=⟨_,rfl⟩
 have hoz:oz A=pf A (fun k=>k%2==0) m:=by rw [hm];rfl
 have hfl:fl A=(List.range m).map (oP A):=by rw [hm];rfl
 rw [hoz]
 rw [hfl]at hF
 have F7:((List.range m).map (oP A)).length=m:=by simp
 have zT:∀i,i<m→nth ((List.range m).map (oP A)) i=oP A i:=fun i hi=>gK _ hi
 generalize (List.range m).map (oP A)=L at *
 have h1:=afB
 rw [show(1:ZX)=pf A (fun k=>k%2==0) 0 from rfl]at h1
 generalize hg:pf A (fun k=>k%2==0) 0=g0 at *
 refine cB [(0,Po a.l)] Tryz.func265 ?_
 refine aA [0] ?_
 refine aL [0] p1 ?_
 refine aK [0,10] ?_
 refine W.cond ⟨_,rfl,fun h3=>?_,fun h3=>?_⟩
 ·simp at h3;exact absurd (by rw [h3];rfl) m7
 clear h3
 refine W.skip ?_
 refine aL [0,3] h1 ?_
 refine W.seq ?_
 refine jG ?_
 refine aC hF ?_
 simp (disch:=omega) [gw,F7]
 refine bI [3,14,15,16] ?_
 subst hg
 refine W.block ?_
 refine W.aY (fun k σ=>∃(i:Nat) (rows:Pm.Rows) (clk:Nat),σ=⟨fa [(3,Po (pf A (fun k=>k%2==0) i).l),(14,aH zp L),(15, .int .i64 m),(16, .int .i64 i)],rows,clk⟩∧i+k=m) m ?_ ?_
 ·exact⟨_, .refl,0,_,_,rfl,by omega⟩
 rintro k _ ⟨i,rows,clk,rfl,uA⟩
 refine bT [3,14,15,16,17] ?_
 refine bH ?_ ?_<;>intro h
 ·have hi:i<m:=by simp at h;omega
  have hiL:i<L.length:=by omega
  have ht:=hmul i
  have CI:=zT i hi
  have hpf:pf A (fun k=>k%2==0) (i+1)=if i%2==0 then pf A (fun k=>k%2==0) i*oP A i else pf A (fun k=>k%2==0) i:=rfl
  generalize pT:pf A (fun k=>k%2==0) (i+1)=g2 at *
  generalize pf A (fun k=>k%2==0) i=g at *
  have e2:((i:Int)%2==0)=(i%2==0):=by rw [Bool.eq_iff_iff,beq_iff_eq,beq_iff_eq];omega
  refine W.skip ?_
  refine W.dW (fun σ=>∃(rows:Pm.Rows) (clk:Nat),σ=⟨fa [(3,Po g2.l),(14,aH zp L),(15, .int .i64 m),(16, .int .i64 i)],rows,clk⟩) ?_ ?_
  ·refine W.sr ?_
   simp (disch:=omega) [gw,CI]
   refine bI [3,4,5,14,15,16] ?_
   refine W.sr ?_
   simp (disch:=omega) [gw,e2]
   refine bI [3,5,14,15,16,23] ?_
   refine bH ?_ ?_<;>intro h
   ·rw [h,if_pos rfl]at hpf
    rw [hpf]
    refine W.bY (fun K hK=>?_)
    simp (disch:=omega) [gw]
    refine cM ht ?_
    exact hK _ ⟨_,aB _ [3,14,15,16],_,_,rfl⟩
   ·rw [h,if_neg (by decide)]at hpf
    rw [hpf]
    refine W.skip ?_
    exact⟨_,aB _ [3,14,15,16],_,_,rfl⟩
  rintro _ ⟨rows,clk,rfl⟩
  subst pT
  refine W.bY (fun K hK=>?_);simp (disch:=omega) [gw]
  refine hK _ ⟨k-1,_,aB _ [3,14,15,16],by omega,i+1,_,_,rfl,by omega⟩
 ·have hi:i=m:=by simp at h;omega
  subst hi
  refine eW ?_
  refine aA [2] ?_
  exact bZ
@[simp] theorem abF:([]:List Int).length=0:=rfl
theorem BZ.yy{h n:Nat}{a:ZX}(b:BZ h n a)(hh:h≤YY)(hn:n≤1099511627775):Bd 2 YY 1099511627775 a.l:=Bd.mono b hh hn
theorem mG{h n:Nat}{a:ZX}(b:BZ h n a)(h1:1≤h)(hh:h≤YY)(hn:n<1099511627776):aE env.P 78 [PI a.l] (PI (nf a).l):=by
 have hP:=E5 a.l b a.c h1 hh hn
 have e:s9 a.l=(nf a).l:=rfl
 rw [e]at hP
 generalize mD a.l=c at *
 generalize (nf a).l=d at *
 generalize a.l=x at *
 refine cB [(0,PI x)] Tryz.func78 ?_
 refine aA [0] ?_
 refine aL [4] hP ?_
 refine aA [2] ?_
 exact bZ
theorem rD{h n:Nat}{a:ZX}(b:BZ h n a)(hh:h≤YY)(hn:n≤1000):aE env.P 160 [PI a.l] (PI (ZX.bX a).l):=by
 have hlen:=b.len
 have e0:(ZX.bX a).l=aP ((List.range (a.l.length-1)).map fun k=>nth a.l (k+1)*((k:Int)+1)):=rfl
 rw [e0]
 have hz:=fun k=>b.nth k
 generalize a.l=x at *
 generalize hm:x.length-1=m at *
 refine dA (E:=env) (fun id=>if id=5 then 2 else 0) [(0,PI x)] Tryz.func160 rfl (by kernel_rfl) (by kernel_rfl) (show 1≤23 by decide) (by simp) ?_
 refine aA [0] ?_
 refine aA [0,3] ?_
 refine W.nil 3 3 31 4 (by simp) (by decide) (fun K hK=>?_)
 refine W.lw [0,3] hK ?_;clear hK K;simp
 refine aK [0,3,4] ?_
 refine W.block ?_
 refine W.aY (fun k σ=>∃(i ver:Nat) (rows:Pm.Rows) (clk:Nat),σ=⟨fa [(0,PI x),(3, .own 3 ver 0 i),(4, .int .i64 ((i:Int)+1))],rows,clk⟩ ∧
  rows 3=some ⟨ver,31,4,emap ri ((List.range i).map fun k=>nth x (k+1)*((k:Int)+1))⟩∧i+k=m) m ?_ ?_
 ·exact⟨_, .refl,0,_,_,_,rfl,by simp [emap],by omega⟩
 rintro k _ ⟨i,ver,rows,clk,rfl,hr,uA⟩
 have vX:(emap ri ((List.range i).map fun k=>nth x (k+1)*((k:Int)+1))).length=i:=by simp [emap]
 refine aK [0,3,4,8] ?_
 refine bH ?_ ?_<;>intro h
 ·have hi:i+1<x.length:=by simp at h;omega
  have o1:=P3 ((i:Int)+1) (by omega)
  have hzi:=hz (i+1)
  have m1:=IH (nth x (i+1)) ((i:Int)+1) (Nat.le_trans hzi hh) (Nat.le_trans (dV (k:=10) (by decide) (by show((i:Int)+1).natAbs<1024;omega)) (by decide))
  have e1:((i:Int)+1).toNat=i+1:=by omega
  have er:(List.range (i+1)).map (fun k=>nth x (k+1)*((k:Int)+1))=(List.range i).map (fun k=>nth x (k+1)*((k:Int)+1)) ++ [nth x (i+1)*((i:Int)+1)]:=by
   rw [List.range_succ,List.map_append];simp
  have aCz:((List.range i).map fun k=>nth x (k+1)*((k:Int)+1)).length=i:=by simp
  generalize (List.range i).map (fun k=>nth x (k+1)*((k:Int)+1))=acc at *
  generalize hq:nth x (i+1)*((i:Int)+1)=q at *
  refine j7 ?_
  refine W.NB (fun K hK=>?_)
  rw [if_pos rfl,gB]
  simp (disch:=omega) [gw,e1]
  refine cM o1 ?_
  refine aC m1 ?_
  simp (disch:=omega) [gw,hr,aCz]
  refine W.lw [0,3,4] hK ?_;clear hK K;simp
  refine W.bY (fun K hK=>?_);simp (disch:=omega) [gw]
  refine hK _ ⟨k-1,_,aB _ [0,3,4],by omega,i+1,_,_,_,by rw [Int.natCast_add];rfl,by rw [er];simp,by omega⟩
 ·have hi:i=m:=by simp at h;omega
  subst hi
  have gE:((List.range i).map fun k=>nth x (k+1)*((k:Int)+1)).length=i:=by simp
  generalize (List.range i).map (fun k=>nth x (k+1)*((k:Int)+1))=acc at *
  have ez:=bM gE
  refine eW ?_
  refine W.sr ?_
  simp (disch:=omega) [gw,hr,ez]
  refine aC (qE acc (by omega)) ?_
  simp (disch:=omega) [gw]
  refine bI [2] ?_
  exact bZ
theorem x7:aE env.P 97 [.sl [[.int .i64 1]]] (PI (1:ZX).l):=xT [1] (by decide) (by decide)
theorem abG{a:ZX}{k:Nat}(hk:k<1099511627776)(h2:∀i,i<k→aE env.P 199 [PI (a^i).l,PI a.l] (PI (a^(i+1)).l)):aE env.P 200 [PI a.l, .int .i64 k] (PI (a^k).l):=by
 have h1:=x7
 rw [show(1:ZX)=a^0 from rfl]at h1
 refine cB [(0,PI a.l),(1, .int .i64 k)] Tryz.func200 ?_
 refine aA [0,1] ?_
 generalize hg:a^0=g0 at *
 refine aL [0,1,5] h1 ?_
 refine aK [0,1,5,6] ?_
 subst hg
 refine W.block ?_
 refine W.aY (fun j σ=>∃(i:Nat) (rows:Pm.Rows) (clk:Nat),σ=⟨fa [(0,PI a.l),(1, .int .i64 k),(5,PI (a^i).l),(6, .int .i64 i)],rows,clk⟩∧i+j=k) k ?_ ?_
 ·exact⟨_, .refl,0,_,_,rfl,by omega⟩
 rintro j _ ⟨i,rows,clk,rfl,uA⟩
 refine aK [0,1,5,6,11] ?_
 refine bH ?_ ?_<;>intro h
 ·have hi:i<k:=by simp at h;omega
  have ht:=h2 i hi
  generalize pT:a^(i+1)=g2 at *
  generalize a^i=g at *
  refine j7 ?_
  refine W.bY (fun K hK=>?_)
  simp (disch:=omega) [gw]
  refine cM ht ?_
  refine W.lw [0,1,5,6] hK ?_;clear hK K;simp
  refine W.bY (fun K hK=>?_);simp (disch:=omega) [gw]
  subst pT
  refine hK _ ⟨j-1,_,aB _ [0,1,5,6],by omega,i+1,_,_,rfl,by omega⟩
 ·have hi:i=k:=by simp at h;omega
  subst hi
  refine eW ?_
  refine aA [4] ?_
  exact bZ
def yX(l:Int):Int:=if l<0 then -1 else 1
theorem ajS(l:Int):yX l*l=l.natAbs:=by unfold yX;split<;>omega
def Y5(y x:List Int):List Int:=yW y (lead y).natAbs (yX (lead y)*lead x) (x.length-y.length) x
def Y6(y x:List Int)(i:Nat):Int:=nth x i*((lead y).natAbs:Int)-if x.length-y.length≤i then yX (lead y)*lead x*nth y (i-(x.length-y.length))else 0
theorem afC{y x:List Int}(h:y.length≤x.length):aP ((List.range x.length).map (Y6 y x))=Y5 y x:=by
 refine Cn.ext (Cn.cut _) (Cn.fS _ _) fun t=>?_
 unfold Y5
 rw [dE,yW,jM,cU,dQ,oY]
 obtain⟨k,hk⟩:∃k,x.length=k+y.length:=⟨x.length-y.length,by omega⟩
 have e1:(List.range x.length).map (Y6 y x)=(List.range x.length).map fun i=>nth x i*((lead y).natAbs:Int)+(-(if x.length-y.length≤i then yX (lead y)*lead x*nth y (i-(x.length-y.length))else 0)):=List.map_congr_left fun i _=>by unfold Y6;omega
 rw [e1,tY,iL,kO (Nat.le_refl _)]
 generalize yX (lead y)*lead x=T at *
 have e2:((List.range x.length).map fun i => -(if x.length-y.length≤i then T*nth y (i-(x.length-y.length))else 0))=List.replicate k 0++y.map fun v=>v*(-T):=by
  have hk2:x.length-y.length=k:=by omega
  rw [hk2,hk,List.range_add,List.map_append,List.map_map]
  congr 1
  ·rw [List.eq_replicate_iff]
   refine⟨by simp,fun v hv=>?_⟩
   simp only [List.mem_map,List.mem_range]at hv
   obtain⟨i,hi,rfl⟩:=hv
   rw [if_neg (by omega)];rfl
  ·have h2:=p8 (x:=y) (n:=y.length) (Nat.le_refl _)
   rw [Nat.sub_self,List.replicate_zero,List.append_nil]at h2
   conv=>rhs;rw [←h2]
   rw [List.map_map]
   refine List.map_congr_left fun i _=>?_
   simp only [Function.comp_apply]
   rw [if_pos (by omega),Nat.add_sub_cancel_left];grind
 rw [e2,eJ,rO]
 have h3:=iL (t:=t) (-T) id y
 simp only [id_eq,List.map_id_fun]at h3
 rw [h3,List.length_replicate,show x.length-y.length=k by omega]
 grind
theorem uK{y x:List Int}(hy:0<y.length)(h:y.length≤x.length):(Y5 y x).length<x.length:=by
 have h1:=B9 (b:=y) (r:=x) (i:=x.length-y.length) hy (by omega)
 rw [show xI y x (x.length-y.length)=lead x from by rw [xI,if_pos (by omega)]]at h1
 have e:Y5 y x=a9 (yW y (lead y) (lead x) (x.length-y.length) x) (yX (lead y)):=Cn.ext (Cn.fS _ _) (Cn.a9 _ _) fun t=>by
  unfold Y5
  rw [cU,yW,yW,jM,jM,cU,cU,dQ,dQ,oY,oY,←ajS]
  grind
 rw [e]
 have:=qT (yW y (lead y) (lead x) (x.length-y.length) x) (yX (lead y))
 omega
theorem afD(t:Int)(y x:List Int):((lead y).natAbs:Int)*V t x=t^(x.length-y.length)*(yX (lead y)*lead x)*V t y+V t (Y5 y x):=by
 unfold Y5
 rw [yW,jM,cU,dQ,oY];grind
def rq(y:List Int):Nat→List Int→List Int
 | 0,x=>x
 | n+1,x=>if x.length<y.length then x else rq y n (Y5 y x)
theorem aqC{y x:List Int}(h:x.length<y.length):∀n,rq y n x=x
 | 0=>rfl
 | n+1=>by rw [rq,if_pos h]
theorem Y7{y:List Int}(cy:Cn y)(hy:0<y.length):∀(n:Nat) (x:List Int),Cn x→x.length<n→Cn (rq y n x)∧(rq y n x).length<y.length ∧ ∃(m:Int) (q:List Int),m≠0 ∧ ∀t,m*V t x=V t q*V t y+V t (rq y n x)
 | 0,x,_,h=>by omega
 | n+1,x,cx,h=>by
  rw [rq]
  split
  ·rename_i h1
   exact⟨cx,h1,1,[],by decide,fun t=>by simp [V]⟩
  ·rename_i h1
   have hl:=uK hy (show y.length≤x.length by omega)
   obtain⟨h2,h3,m,q,hm,h4⟩:=Y7 cy hy n (Y5 y x) (Cn.fS _ _) (by omega)
   have AJ:=dH cy hy
   refine⟨h2,h3,m*(lead y).natAbs,i3 q (a9 (rV (x.length-y.length) (yX (lead y)*lead x)) m),Int.mul_ne_zero hm (by omega),fun t=>?_⟩
   have h5:=afD t y x
   have h6:=h4 t
   rw [sV,cU,oY]
   have:m*((lead y).natAbs:Int)*V t x=m*(((lead y).natAbs:Int)*V t x):=by grind
   rw [this,h5]
   grind
theorem VL{s s' N:Nat}{y x:List Int}(uJ:Bd 2 s' N y)(bx:Bd 2 s N x)(hy:0<y.length)(h:y.length≤x.length):Bd 2 (s+(s'+N+1)) N (Y5 y x):=by
 have hl:=uK hy h
 have hlx:=bx.len
 have hls:sz 2 ((lead y).natAbs:Int)≤s':=Nat.le_trans (dY (by decide) (by rw [Int.natAbs_natCast];exact Nat.le_refl _)) (iD uJ)
 have hlr:sz 2 (yX (lead y)*lead x)≤s:=Nat.le_trans (dY (by decide) (by
  rw [Int.natAbs_mul]
  have:(yX (lead y)).natAbs=1:=by unfold yX;split<;>rfl
  rw [this,Nat.one_mul];exact Nat.le_refl _)) (iD bx)
 have b1:Bd 2 (s+s'+N) (max N (x.length-y.length+1+N)) (a9 x ((lead y).natAbs:Int)):=(bx.a9 (by decide) hls).mono (by omega) (by omega)
 have b2:Bd 2 (s+s'+N) (max N (x.length-y.length+1+N)) (bR (rV (x.length-y.length) (yX (lead y)*lead x)) y):=((Bd.rV hlr (x.length-y.length)).bR (by decide) uJ).mono (by omega) (by omega)
 exact⟨by omega,fun c hc=>by
  have h6:=(Bd.fS (by decide) b1 b2).sz c hc
  omega⟩
theorem amO{s' N:Nat}{y:List Int}(uJ:Bd 2 s' N y)(hy:0<y.length):∀(n j s:Nat) (x:List Int),Bd 2 s N x→x.length+1≤y.length+j→Bd 2 (s+j*(s'+N+1)) N (rq y n x)
 | 0,j,s,x,bx,_=>bx.mono (by simp) (Nat.le_refl _)
 | n+1,j,s,x,bx,hj=>by
  rw [rq]
  split
  ·exact bx.mono (by simp) (Nat.le_refl _)
  ·rename_i h1
   obtain⟨i,rfl⟩:∃i,j=i+1:=⟨j-1,by omega⟩
   have hl:=uK hy (show y.length≤x.length by omega)
   have:=amO uJ hy n i (s+(s'+N+1)) (Y5 y x) (VL uJ bx hy (by omega)) (by omega)
   rw [Nat.add_mul,Nat.one_mul]
   exact this.mono (by omega) (Nat.le_refl _)
theorem aqD(n:Nat):RI (n:Int) = .ag [aH aG (aR DD n), .bool false]:=by
 simp [show ¬((n:Int)<0)by omega]
set_option maxHeartbeats 2000000 in
theorem I2{s s' N:Nat}{x0 y:List Int}(bx0:Bd 2 s N x0)(uJ:Bd 2 s' N y)(cx0:Cn x0)(cy:Cn y)(UR:0<y.length)(hN:N≤1000)(hB:s+(x0.length+1-y.length+1)*(s'+N+1)<YY) :
  aE env.P 162 [PI x0,PI y] (PI (rq y (x0.length+1) x0)):=by
 have hlN:=bx0.len
 have hNy:=uJ.len
 obtain⟨R,hR⟩:∃R,R=rq y (x0.length+1) x0:=⟨_,rfl⟩
 rw [←hR]
 obtain⟨M,hM⟩:∃M,M=s+(x0.length+1-y.length+1)*(s'+N+1):=⟨_,rfl⟩
 rw [←hM]at hB
 have hB:M<137438953472:=hB
 have hls:sz 2 ((lead y).natAbs:Int)≤s':=Nat.le_trans (dY (by decide) (by rw [Int.natAbs_natCast];exact Nat.le_refl _)) (iD uJ)
 have e2:((y.length:Int)-1).toNat=y.length-1:=by omega
 have SO:nth y (y.length-1)=lead y:=rfl
 refine dA (E:=env) (fun id=>if id=16 then 2 else 0) [(0,PI x0),(1,PI y)] Tryz.func162 rfl (by kernel_rfl) (by kernel_rfl) (show 2≤78 by decide) (by simp) ?_
 refine aA [0,1] ?_
 refine W.sr ?_
 simp (disch:=omega) [gw,e2,SO]
 refine bI [0,1,5] ?_
 refine aA [0,1,5,6] ?_
 refine bT [0,1,5,6] ?_
 refine W.block ?_
 refine W.aY (fun n σ=>∃(x:List Int) (j u:Nat) (rows:Pm.Rows) (clk:Nat),σ=⟨fa [(0,PI x),(1,PI y),(5, .ptr 5 0 0 0),(6, .ptr 6 1 0 0)],rows,clk⟩ ∧
  rows 5=some ⟨0,29,2,[[aH aG (aR DD (lead y).natAbs), .bool (decide (lead y<0))]]⟩∧rows 6=some ⟨1,29,2,[[aH aG (aR DD (lead y).natAbs), .bool false]]⟩ ∧
  Cn x∧x.length<n∧rq y n x=R∧Bd 2 u N x∧x.length+1≤y.length+j∧u+(j+1)*(s'+N+1)≤M) (x0.length+1) ?_ ?_
 ·exact⟨_, .refl,x0,x0.length+1-y.length,s,_,_,rfl,by simp,by simp,cx0,by omega,hR.symm,bx0,by omega,by omega⟩
 rintro n _ ⟨x,j,u,rows,clk,rfl,dM,i9,cx,hxn,hxR,bx,hj,hu⟩
 have hlx:=bx.len
 refine aK [0,1,5,6,25] ?_
 refine bH ?_ ?_<;>intro h
 ·have h:y.length≤x.length:=by simp at h;omega
  obtain⟨n,rfl⟩:∃m,n=m+1:=⟨n-1,by omega⟩
  rw [rq,if_neg (by omega)]at hxR
  have G2:=uK UR h
  obtain⟨k,hk⟩:∃k,k=x.length-y.length:=⟨_,rfl⟩
  have hkI:(x.length:Int)-(y.length:Int)=k:=by omega
  have e1:((x.length:Int)-1).toNat=x.length-1:=by omega
  have hxl:nth x (x.length-1)=lead x:=rfl
  have axb:=afC h
  have b2:=VL uJ bx UR h
  have hlX:sz 2 (lead x)≤u:=iD bx
  have hu1:u+(s'+N+1)≤M:=by
   have:=Nat.le_mul_of_pos_left (s'+N+1) (show 0<j+1 by omega)
   omega
  refine W.skip ?_
  refine W.block ?_
  refine W.sr ?_
  simp (disch:=omega) [gw,hkI]
  refine bI [0,1,5,6,7] ?_
  refine W.sr ?_
  simp (disch:=omega) [gw,e1,hxl]
  refine bI [0,1,5,6,7,8] ?_
  obtain⟨T,hT⟩:∃T,T=yX (lead y)*lead x:=⟨_,rfl⟩
  have hTs:sz 2 T≤u:=Nat.le_trans (dY (by decide) (by
   rw [hT,Int.natAbs_mul]
   have:(yX (lead y)).natAbs=1:=by unfold yX;split<;>rfl
   rw [this,Nat.one_mul];exact Nat.le_refl _)) hlX
  have hTp:(lead y<0→T = -lead x)∧(¬lead y<0→T=lead x):=by
   rw [hT];unfold yX
   constructor
   ·intro h;rw [if_pos h];omega
   ·intro h;rw [if_neg h];omega
  refine W.iB (fun σ=>∃(v:Nat) (rows:Pm.Rows) (clk:Nat),σ=⟨fa [(0,PI x),(1,PI y),(5, .ptr 5 0 0 0),(6, .ptr 6 1 0 0),(7, .int .i64 k),(8, .ptr 8 v 0 0)],rows,clk⟩ ∧
   rows 5=some ⟨0,29,2,[[aH aG (aR DD (lead y).natAbs), .bool (decide (lead y<0))]]⟩∧rows 6=some ⟨1,29,2,[[aH aG (aR DD (lead y).natAbs), .bool false]]⟩ ∧
   rows 8=some ⟨v,29,2,[[aH aG (aR DD T.natAbs), .bool (decide (T<0))]]⟩) ?_ ?_
  ·refine W.sr ?_
   simp (disch:=omega) [gw,dM]
   refine bI [0,1,5,6,7,8,39] ?_
   refine bH ?_ ?_<;>intro h
   ·have h:lead y<0:=by simpa using h
    have aeS:=s7 (lead x)
    rw [←hTp.1 h]at aeS
    refine W.bY (fun K hK=>?_)
    simp (disch:=omega) [gw]
    refine cM aeS ?_
    exact hK _ ⟨_,aB _ [0,1,5,6,7,8],_,_,_,rfl,by simp [dM],by simp [i9],by simp⟩
   ·have h:¬lead y<0:=by simpa using h
    rw [hTp.2 h]
    refine W.skip ?_
    exact⟨_,aB _ [0,1,5,6,7,8],_,_,_,rfl,by simp [dM],by simp [i9],by simp⟩
  clear dM i9 rows clk
  rintro _ ⟨v8,rows,clk,rfl,dM,i9,oC⟩
  refine aA [0,1,5,6,7,8,9] ?_
  refine W.nil 9 9 31 4 (by simp) (by decide) (fun K hK=>?_)
  refine W.lw [0,1,5,6,7,8,9] hK ?_;clear hK K;simp
  refine aK [0,1,5,6,7,8,9,43,44] ?_
  refine W.block ?_
  refine W.aY (fun m σ=>∃(i v9:Nat) (rows:Pm.Rows) (clk:Nat),σ=⟨fa [(0,PI x),(1,PI y),(5, .ptr 5 0 0 0),(6, .ptr 6 1 0 0),(7, .int .i64 k),(8, .ptr 8 v8 0 0),(9, .own 9 v9 0 i),(43, .int .i64 x.length),(44, .int .i64 i)],rows,clk⟩ ∧
   rows 5=some ⟨0,29,2,[[aH aG (aR DD (lead y).natAbs), .bool (decide (lead y<0))]]⟩∧rows 6=some ⟨1,29,2,[[aH aG (aR DD (lead y).natAbs), .bool false]]⟩ ∧
   rows 8=some ⟨v8,29,2,[[aH aG (aR DD T.natAbs), .bool (decide (T<0))]]⟩∧rows 9=some ⟨v9,31,4,emap ri ((List.range i).map (Y6 y x))⟩∧i+m=x.length) x.length ?_ ?_
  ·exact⟨_,aB _ [0,1,5,6,7,8,9,43,44],0,_,_,_,rfl,by simp [dM],by simp [i9],by simp [oC],by simp [emap],by omega⟩
  clear dM i9 oC rows clk
  rintro m _ ⟨i,v9,rows,clk,rfl,dM,i9,oC,IW,him⟩
  have vX:((List.range i).map (Y6 y x)).length=i:=by simp
  refine bT [0,1,5,6,7,8,9,43,44,45] ?_
  refine bH ?_ ?_<;>intro h
  ·have hi:i<x.length:=by simp at h;omega
   have hxi:=bx.nth i
   have m1:=fD (nth x i) ((lead y).natAbs:Int) (by show sz 2 _<1099511627776;omega) (by show sz 2 _<1099511627776;omega)
   rw [aqD]at m1
   have s1:sz 2 (nth x i*((lead y).natAbs:Int))≤u+s':=cP (by decide) hxi hls
   have er:(List.range (i+1)).map (Y6 y x)=(List.range i).map (Y6 y x) ++ [Y6 y x i]:=by
    rw [List.range_succ,List.map_append];rfl
   have hF:Y6 y x i=nth x i*((lead y).natAbs:Int)-if k≤i then T*nth y (i-k)else 0:=by unfold Y6;rw [hk,hT]
   generalize (List.range i).map (Y6 y x)=acc at *
   generalize hP:nth x i*((lead y).natAbs:Int)=P at *
   refine j7 ?_
   refine aA [0,1,5,6,7,8,9,10,43,44] ?_
   refine W.sd ?_
   simp (disch:=omega) [gw,i9]
   refine cM m1 ?_
   rw [if_pos (by kernel_rfl)]
   simp (disch:=omega) [gw]
   refine bI [0,1,5,6,7,8,9,10,11,43,44] ?_
   generalize hQ:Y6 y x i=Q at *
   have sQ:sz 2 Q≤u+(s'+N+1):=by
    have hyi:sz 2 (nth y (i-k))≤s':=uJ.nth _
    rw [hF]
    split
    ·have:=cP (b:=2) (by decide) hTs hyi
     have h1:=n6 (b:=2) (by decide) (x:=P) (y := -(T*nth y (i-k))) (k:=u+s') s1 (by rw [pK];exact this)
     rw [←Int.sub_eq_add_neg]at h1
     omega
    ·rw [Int.sub_zero];omega
   refine W.iB (fun σ=>∃(v11:Nat) (rows:Pm.Rows) (clk:Nat),σ=⟨fa [(0,PI x),(1,PI y),(5, .ptr 5 0 0 0),(6, .ptr 6 1 0 0),(7, .int .i64 k),(8, .ptr 8 v8 0 0),(9, .own 9 v9 0 i),(11, .ptr 11 v11 0 0),(43, .int .i64 x.length),(44, .int .i64 i)],rows,clk⟩ ∧
    rows 5=some ⟨0,29,2,[[aH aG (aR DD (lead y).natAbs), .bool (decide (lead y<0))]]⟩∧rows 6=some ⟨1,29,2,[[aH aG (aR DD (lead y).natAbs), .bool false]]⟩ ∧
    rows 8=some ⟨v8,29,2,[[aH aG (aR DD T.natAbs), .bool (decide (T<0))]]⟩∧rows 9=some ⟨v9,31,4,emap ri acc⟩ ∧
    rows 11=some ⟨v11,29,2,[[aH aG (aR DD Q.natAbs), .bool (decide (Q<0))]]⟩) ?_ ?_
   ·refine aA [0,1,5,6,7,8,9,10,11,43,44,56] ?_
    refine bH ?_ ?_<;>intro h
    ·have hki:k≤i:=by simp at h;omega
     rw [if_pos hki]at hF
     have eik:(i:Int)-(k:Int)=((i-k:Nat):Int):=by omega
     have hyb:i-k<y.length:=by omega
     have m2:=fD T (nth y (i-k)) (by show sz 2 _<1099511627776;omega) (by have:=uJ.nth (i-k);show sz 2 _<1099511627776;omega)
     have s2:=cP (b:=2) (by decide) hTs (uJ.nth (i-k))
     have m3:=PT P (T*nth y (i-k)) (by show sz 2 _<1099511627776;omega) (by show sz 2 _<1099511627776;omega)
     rw [←hF]at m3
     generalize T*nth y (i-k)=P2 at *
     refine W.NB (fun K hK=>?_)
     simp (disch:=omega) [gw,oC,eik]
     refine cM m2 ?_
     refine cM m3 ?_
     refine bE (by kernel_rfl) ?_
     simp (disch:=omega) [gw]
     exact hK _ ⟨_,aB _ [0,1,5,6,7,8,9,11,43,44],_,_,_,rfl,by simp [dM],by simp [i9],by simp [oC],by simp [IW],by simp⟩
    ·have hki:¬k≤i:=by simp at h;omega
     rw [if_neg hki,Int.sub_zero]at hF
     rw [hF]
     refine W.skip ?_
     exact⟨_,aB _ [0,1,5,6,7,8,9,11,43,44],_,_,_,rfl,by simp [dM],by simp [i9],by simp [oC],by simp [IW],by simp⟩
   clear dM i9 oC IW rows clk
   rintro _ ⟨v11,rows,clk,rfl,dM,i9,oC,IW,aqa⟩
   have o1:=oZ 1 (by decide) (by decide)
   have mk:=IF Q (by show sz 2 Q<549755813888;omega)
   refine W.NB (fun K hK=>?_)
   rw [if_pos rfl,gB]
   simp (disch:=omega) [gw,aqa]
   refine cM o1 ?_
   refine aC mk ?_
   simp (disch:=omega) [gw,IW,vX]
   refine W.lw [0,1,5,6,7,8,9,43,44] hK ?_;clear hK K;simp
   refine W.bY (fun K hK=>?_);simp (disch:=omega) [gw]
   refine hK _ ⟨m-1,_,aB _ [0,1,5,6,7,8,9,43,44],by omega,i+1,_,_,_,rfl,by simp [dM],by simp [i9],by simp [oC],by rw [er];simp,by omega⟩
  ·have hi:i=x.length:=by simp at h;omega
   subst hi
   have gE:((List.range x.length).map (Y6 y x)).length=x.length:=by simp
   generalize (List.range x.length).map (Y6 y x)=acc at *
   have ez:=bM gE
   have oM:=qE acc (by omega)
   rw [axb]at oM
   refine eW ?_
   refine W.bY (fun K hK=>?_)
   simp (disch:=omega) [gw,IW,ez]
   refine cM oM ?_
   obtain⟨j,rfl⟩:∃i,j=i+1:=⟨j-1,by omega⟩
   rw [Nat.add_mul,Nat.one_mul]at hu
   refine hK _ ⟨n,_,aB _ [0,1,5,6],by omega,Y5 y x,j,u+(s'+N+1),_,_,rfl,by simp [dM],by simp [i9],Cn.fS _ _,by omega,hxR,b2,by omega,by omega⟩
 ·have h:x.length<y.length:=by simp at h;omega
  rw [aqC h]at hxR
  subst hxR
  refine eW ?_
  refine aA [4] ?_
  exact bZ
end Go.Proofs.YtiobceocpabjdaaGreat
namespace Pm
open Go Go.RowKit
section
variable {E:Env} {c:Cx} {w0:World} {S0:eG} {m:Nat} {G:Gs}
theorem ajT(hI:Inv w0 S0 c){t e:TypeId}{n bb len:Nat}{z:List PV}(hE:E.ty t = .slice e n bb z){parts:Array (Nat × Operand)}{ρ:Operand→PV}{vρ:Operand→Value}(hρ:∀x,aI c (ρ x) (vρ x))
  {els:List (List PV)} (C9:iU n 0 (parts.toList.map fun x=>(x.1,ρ x.2))=some els) (hlen:len=els.length) (hsm:len≤4096) (hn:n≤4096)
  (jR:∀e∈els,∀p∈e,iT c.rows p) :
  ∃c7,(Instr.buildSlice t len (parts.map fun(i,x)=>(i,vρ x))).run E.P c.w = .ok (.slice (some ⟨c.w.heap.size,0,none⟩) len len) (c.w.alloc (.cells c7 e))∧c7.size=len*n∧bF (aM c) els.flatten c7.toList∧(∀u∈c7.toList,u.oneCell'=true)∧(∀e∈els,e.length=n)∧0<n:=by
 obtain⟨hu,hnp,JX,i,zv,hi,hz,hs,_,TB,_⟩:=gI hE
 obtain⟨g1,g2,g3⟩:=pH C9
 have W2:parts.size=els.length:=by rw [g1];simp
 have az9:zv.cells.size=n:=by rw [←JX,←TB];simp
 have HM:∀j (x:Nat × Value),((parts.map fun(i,x)=>(i,vρ x)).toList)[j]? = some x→x.1=0+j ∧ ∃e,els[j]? = some e∧bF (aM c) e x.2.cells.toList ∧ ∀u∈x.2.cells.toList,u.oneCell'=true:=by
  intro j x hx
  simp at hx
  obtain⟨a,b,fQ,rfl⟩:=hx
  obtain⟨q1,e,q2,q3⟩:=g3 j (a,ρ b) (by simp;exact⟨a,b,fQ,rfl,rfl⟩)
  have q4:=nZ (hρ b) q3 (fun q hq=>jR e (List.mem_of_getElem? q2) q hq)
  exact⟨q1,e,q2,q4.1,q4.2⟩
 obtain⟨c7,f1,f2⟩:=DH (n:=n) (parts.map fun(i,x)=>(i,vρ x)).toList 0 ((Array.range (len*n)).map (zv.cells[· % zv.cells.size]!)) (fun j x hx=>by
  obtain⟨q1,e,q2,q3,_⟩:=HM j x hx
  refine⟨q1,?_⟩
  have:=q3.length
  rw [g2 e (List.mem_of_getElem? q2)]at this
  simpa using this.symm) (by simp [W2,hlen])
 simp only [Nat.zero_mul,List.take_zero,List.nil_append]at f2
 have jJ:(Instr.buildSlice t len (parts.map fun(i,x)=>(i,vρ x))).run E.P c.w = .ok (.slice (some ⟨c.w.heap.size,0,none⟩) len len) (c.w.alloc (.cells c7 e)):=by
  have hbound:¬(16777216<len*n):=by
   have:len*n≤4096*4096:=Nat.mul_le_mul hsm hn
   omega
  by_cases h0:len*n=0
  ·have AJ:len=0:=by
    rcases Nat.mul_eq_zero.1 h0 with h | h
    ·exact h
    ·omega
   have hp0:parts = #[]:=Array.eq_empty_of_size_eq_zero (by omega)
   subst hp0
   subst AJ
   simp [Instr.fill]at f1
   subst f1
   have HN:Array.range 0 = #[]:=rfl
   simp [Instr.buildSlice,run_underlying hu,dD hi,newRow,Instr.fill,HN]
  ·have f1':Instr.fill (fun i=>some (i*n,n)) ((Array.range (len*n)).map (zv.cells[· % zv.cells.size]!)) (parts.toList.map fun x=>(x.1,vρ x.2))=some c7:=by simpa using f1
   simp only [Instr.buildSlice,Sem.run_bind,run_underlying hu,Result.andThen_ok,dD hi,hs]
   simp [h0,hbound,newRow,zeroValue,typeInfo,hi,hz,f1']
 have e3:c7.toList=((parts.map fun(i,x)=>(i,vρ x)).toList.map fun x=>x.2.cells.toList).flatten:=by rw [f2,List.flatMap_def]
 have key:∀(vs:List (Nat × Value)) (es:List (List PV)),vs.length=es.length→(∀(j:Nat) (x:Nat × Value),vs[j]? = some x → ∃e,es[j]? = some e∧bF (aM c) e x.2.cells.toList ∧ ∀u∈x.2.cells.toList,u.oneCell'=true) →
   bF (aM c) es.flatten (vs.map fun x=>x.2.cells.toList).flatten ∧ ∀u∈(vs.map fun x=>x.2.cells.toList).flatten,u.oneCell'=true:=by
  intro vs
  induction vs with
  | nil =>
   intro es hl _
   have:es = []:=List.eq_nil_of_length_eq_zero hl.symm
   subst this
   exact⟨trivial,by simp⟩
  | cons v vs ih =>
   intro es hl h
   match es,hl with
   | e::es,hl =>
    obtain⟨h1,h2⟩:=ih es (by simpa using hl) fun j x hx=>by simpa using h (j+1) x (by simpa using hx)
    obtain⟨e',q1,q2,q3⟩:=h 0 v (by simp)
    simp at q1;subst q1
    simp only [List.flatten_cons,List.map_cons]
    refine⟨bF.append q2 h1,fun u hu=>?_⟩
    rcases List.mem_append.1 hu with hu | hu
    ·exact q3 u hu
    ·exact h2 u hu
 obtain⟨k1,k2⟩:=key (parts.map fun(i,x)=>(i,vρ x)).toList els (by simp [W2]) fun j x hx=>(HM j x hx).2
 rw [←e3]at k1 k2
 refine⟨c7,jJ,?_,k1,k2,g2,hnp⟩
 have h5:=k1.length
 have fl:∀ {l:List (List PV)},(∀e∈l,e.length=n)→l.flatten.length=l.length*n:=by
  intro l
  induction l with
  | nil=>intro _;simp
  | cons e l ih=>intro h;rw [List.flatten_cons,List.length_append,ih (fun e he=>h e (by simp [he])),h e (by simp),List.length_cons,Nat.add_mul];omega
 rw [fl g2,Array.length_toList]at h5
 rw [hlen];exact h5.symm
def G4(E:Env)(o:Oper)(K:PS→Prop)(σ:PS):Prop:=
 match o.op with
 | .buildSlice t len parts =>
  match E.ty t with
  | .slice e n _ _=>∃els,iU n 0 (parts.toList.map fun x=>(x.1,aS σ.f x.2))=some els∧len=els.length∧len≤4096∧n≤4096∧(∀x∈els,∀p∈x,iT σ.rows p) ∧
    J0 K σ o.dst (.own (o.dst.getD 0) σ.clock 0 els.length) (o.dst.getD 0) e n els
  | _=>False
 | _=>False
theorem wF{o:Oper}{a:Act}{w:World}{σ:PS}{K:PS→Prop}(h:G4 E o K σ)(hR:Rel w0 S0 m G σ a w)(hd:∀t,o.dst=some t→t<m)
  {K':Act→World→Prop} {Q:Exit→Act→World→Prop} (hK:∀σ' a' w',K σ'→Rel w0 S0 m G σ' a' w'→K' a' w'):o.wp E.P a w K' Q:=by
 obtain⟨⟨c,rfl,hr,gE,hI,hf,hG⟩,hn,fR⟩:=hR
 have hρ:=nJ hf
 obtain⟨dst,op,type,pos,after,guard⟩:=o
 simp only at hd
 unfold G4 at h
 simp only at h
 split at h
 ·rename_i t len parts
  split at h
  ·rename_i e n b z hE
   obtain⟨els,h1,h2,h3,h4,h5,h⟩:=h
   rw [←hr]at h5
   obtain⟨c7,g1,g2,g3,g4,g5,g6⟩:=ajT hI hE hρ h1 h2 h3 h4 h5
   obtain⟨qN,hA⟩:=y9 hI (ver:=σ.clock) (fun hu=>Nat.lt_irrefl _ (gE _ hu)) (dst.getD 0) e n els.length els.length els c7 rfl (Nat.le_refl _) (by simp only [maxLen];omega) (by rw [g2,h2]) (by
    rw [List.take_of_length_le (by rw [Array.length_toList,g2,h2];exact Nat.le_refl _)];exact g3) g4 g5 g6
   obtain⟨f',rows',yS,DL⟩:=sI (K:=fun f' r'=>K ⟨f',r',σ.clock+1⟩) hr gE hf hG hn fR h qN hA (mS (r:=⟨σ.clock,e,n,els⟩) (A:=some ⟨c.w.heap.size,0,none⟩) (cap:=els.length) (by simp [eC]) rfl (Or.inl rfl) (by simp [eC])) hd
   unfold Oper.wp
   have:(execOp a.eval { dst:=dst,op:=.buildSlice t len parts,type:=type,pos:=pos,after:=after,guard:=guard }).run E.P c.w = .ok (.value (.slice (some ⟨c.w.heap.size,0,none⟩) els.length els.length)) (c.w.alloc (.cells c7 e)):=by
    rw [h2]at g1
    simp only [execOp,Sem.run_bind,h2,g1,Result.andThen_ok,Sem.run_pure]
   rw [this]
   refine hK _ _ _ yS (DL.mono fun v hv=>?_)
   show v<σ.clock+1
   rcases hv with rfl | hv
   ·omega
   ·have:v<σ.clock:=hv
    omega
  ·exact h.elim
 ·exact h.elim
theorem o8{ops:Array Oper}{K:PS→Prop}{Q:Exit→Act→World→Prop}{l2:List Oper}(hK:∀σ' a' w',K σ'→Rel w0 S0 m G σ' a' w'→wpList E.P ops Q l2 a' w') :
  ∀(l:List Oper) (σ:PS) (a:Act) (w:World),(∀o∈l,∀t,o.dst=some t→t<m)→aO E ops.toList l K σ→Rel w0 S0 m G σ a w→wpList E.P ops Q (l++l2) a w
 | [],σ,a,w,_,h,hR=>hK _ _ _ h hR
 | o::os,σ,a,w,hd,h,hR=>by
  have hdo:=hd o (by simp)
  have hds:∀o∈os,∀t,o.dst=some t→t<m:=fun o ho=>hd o (by simp [ho])
  have wanted:∀ {σ},fJ E o (aO E ops.toList os K) σ→Rel w0 S0 m G σ a w→o.wp E.P a w (wpList E.P ops Q (os++l2)) Q:=fun hp hR =>
   AM hp hR hdo fun σ' a' w' hk lZ=>o8 hK os σ' a' w' hds hk lZ
  show wpList E.P ops Q (o::(os++l2)) a w
  unfold wpList
  simp only [aO]at h
  split at h
  ·rename_i hg
   rw [if_pos (by simp [Region.wanted,hg])]
   exact .inl (wanted h hR)
  ·rename_i j want hg
   split at h
   ·exact h.elim
   ·rename_i d TQ
    have hd3:(ops[j]?).bind (·.dst)=some d:=by simpa using TQ
    have skip:yielded ops a.tmps j≠some want→aO E ops.toList os K (σ.put o.dst (.dX []))→(if Region.wanted o (yielded ops a.tmps)=true then o.wp E.P a w (wpList E.P ops Q (os++l2)) Q∨(o.asks E.P a w∧LetsOut Q)else wpList E.P ops Q (os++l2) (a.put o.dst undef) w):=by
     intro hy h2
     rw [if_neg (by simpa [Region.wanted,hg]using hy)]
     refine o8 hK os _ _ w hds h2 ?_
     obtain⟨⟨c,rfl,hr,gE,hI,hf,hG⟩,hn,fR⟩:=hR
     exact tR hf hG hn fR (uT.refl c) hI TN hdo rfl (by simp [PS.put,hr]) gE
    obtain⟨c,_,_,_,_,hf,_⟩:=hR.ex
    have hx:=hf d
    rcases h with ⟨h1,h2⟩ | ⟨h1 | h1,h2⟩
    ·rw [h1]at hx
     rw [if_pos (by simp [Region.wanted,hg,jC hd3 hx])]
     exact .inl (wanted h2 hR)
    ·rw [h1]at hx
     exact skip (by rw [jC hd3 hx];cases want<;>simp) h2
    ·rw [h1]at hx
     exact skip (by rw [vO hd3 hx];simp) h2
end
theorem W.amP{E:Env}{n:Nat}{tl:Nat→Nat}{Q:PX→PS→Prop}{σ:PS}{id:Nat}{ops:List Oper}{y:Code}(i:Nat){o:Oper}(ho:ops=ops.take i++o::ops.drop (i+1))(hg:o.guard=none)
  (h:∀K:PS→Prop,(∀σ,W E n tl y Q σ→K σ)→go (aO E ops (ops.take i) (fun σ=>G4 E o (aO E ops (ops.drop (i+1)) K) σ) σ)):W E n tl (.seq (.region id ops.toArray false) y) Q σ:=by
 refine W.seq ?_
 intro fT w0 S0 G a w Q' hR hQ
 simp only [fF,sJ,Bool.and_eq_true]at fT
 have hd:∀o∈ops,∀t,o.dst=some t→t<n:=fun o ho t ht=>by
  have:=Array.all_eq_true_iff_forall_mem.1 fT.1 o (by simpa using ho)
  simpa [ht]using this
 refine wp_region_list ?_
 show wpList E.P ops.toArray Q' ops a w
 have h1:=h (fun σ=>W E n tl y Q σ) fun _ h=>h
 have pY:o∈ops:=by rw [ho];simp
 have:=o8 (E:=E) (w0:=w0) (S0:=S0) (m:=n) (G:=G) (ops:=ops.toArray) (Q:=Q') (l2:=o::ops.drop (i+1)) (K:=fun σ=>G4 E o (aO E ops (ops.drop (i+1)) (fun σ=>W E n tl y Q σ)) σ) (fun σ' a' w' hl lZ=>by
  unfold wpList
  rw [if_pos (by simp [Region.wanted,hg])]
  refine .inl (wF hl lZ (hd o pY) fun σ2 a2 w2 hk hR2=>?_)
  exact iX (E:=E) (ops:=ops.toArray) (fun σ3 a3 w3 hk3 hR3=>hQ .normal σ3 a3 w3 hk3 hR3) _ σ2 a2 w2 (fun o ho=>hd o (List.mem_of_mem_drop ho)) hk hR2) (ops.take i) σ a w (fun o ho=>hd o (List.mem_of_mem_take ho)) h1 hR
 rwa [←ho]at this
def FF(ti:TI)(rows:Rows)(len:Nat)(ps:List (Nat × PV))(K:TypeId→Nat→List (List PV)→Prop):Prop:=
 match ti with
 | .slice e n _ _=>j6 n 0 ps fun els=>aJ (len=els.length∧len≤4096∧n≤4096∧iY rows els.flatten) (K e n els)
 | _=>False
@[congr] theorem ajU{t t':TI}{rows rows':Rows}{len:Nat}{ps XO:List (Nat × PV)}{K:TypeId→Nat→List (List PV)→Prop}(h:t=t')(h2:ps=XO)(h3:rows=rows'):FF t rows len ps K=FF t' rows' len XO K:=by rw [h,h2,h3]
@[simp] theorem ajV{e n b:Nat}{z:List PV}{rows:Rows}{len:Nat}{ps:List (Nat × PV)}{K:TypeId→Nat→List (List PV)→Prop}:FF (.slice e n b z) rows len ps K=j6 n 0 ps fun els=>aJ (len=els.length∧len≤4096∧n≤4096∧iY rows els.flatten) (K e n els):=rfl
@[simp] theorem azw{E:Env}{K:PS→Prop}{f:Nat→PV}{rows:Rows}{clk:Nat}{d:Option Tmp}{ty:TypeId}{pos:String}{af:Array Edge}{t:TypeId}{len:Nat}{parts:Array (Nat × Operand)} :
  G4 E ⟨d, .buildSlice t len parts,ty,pos,af,none⟩ K ⟨f,rows,clk⟩=FF (E.ty t) rows len (parts.toList.map fun x=>(x.1,aS f x.2)) fun e n els=>K ⟨put f d (.own (d.getD 0) clk 0 els.length),eC rows (d.getD 0) (some ⟨clk,e,n,els⟩),clk+1⟩:=by
 simp only [G4,FF]
 generalize E.ty t=T
 cases T with
 | slice e n b z =>
  simp only
  rw [←zB]
  simp only [aJ,J0,iY]
  apply propext
  constructor
  ·rintro⟨els,h1,h2,h3,h4,h5,h6⟩
   exact⟨els,h1,⟨h2,h3,h4,fun q hq=>by obtain⟨x,hx,hq⟩:=List.mem_flatten.1 hq;exact h5 x hx q hq⟩,h6⟩
  ·rintro⟨els,h1,⟨h2,h3,h4,h5⟩,h6⟩
   exact⟨els,h1,h2,h3,h4,fun x hx q hq=>h5 q (List.mem_flatten.2 ⟨x,hx,hq⟩),h6⟩
 | _=>rfl
end Pm
namespace Go.Proofs.YtiobceocpabjdaaGreat
open Go Pm
def rz(a c:ZX):ZX:=ZX.of (rq c.l (a.l.length+1) a.l)
theorem uL{a c:ZX}(hc:c≠0):(rz a c).l=rq c.l (a.l.length+1) a.l∧ZX.N (rz a c)<ZX.N c ∧ ∃(m:Int) (q:ZX),m≠0∧ZX.K m*a=q*c+ZX.K 1*rz a c:=by
 obtain⟨h1,h2,m,q,hm,h3⟩:=Y7 c.c (ZX.aF.1 hc) (a.l.length+1) a.l a.c (by omega)
 have e:(rz a c).l=rq c.l (a.l.length+1) a.l:=h1
 refine⟨e,by show(rz a c).l.length<c.l.length;rw [e];exact h2,m,ZX.of q,hm,ZX.ext fun t=>?_⟩
 rw [ZX.eM,ZX.wR,ZX.nI,ZX.eM,ZX.eM,ZX.wR,ZX.VF,e,h3 t];omega
theorem Y8{s n:Nat}{a c:ZX}(ha:BZ s n a)(hb:BZ s n c)(hc:c≠0):BZ (s+(ZX.N a+1-ZX.N c)*(s+n+1)) n (rz a c):=by
 have h:=amO hb (ZX.aF.1 hc) (a.l.length+1) (ZX.N a+1-ZX.N c) s a.l ha (by show ZX.N a+1≤ZX.N c+_;omega)
 rw [←(uL hc).1]at h
 exact h
theorem I3{s n C:Nat}{a c:ZX}(b:BZ s n a)(b':BZ s n c)(hP:B3 C n s (nf a) (nf c))(hn:n≤20)(hC:C≤4500000000)(h1:1≤s):aE env.P 203 [PI a.l,PI c.l] (PI (gz a c).l):=by
 have hs:=hP.le
 have p1:=mG b h1 (by show s≤137438953472;omega) (by omega)
 have p2:=mG b' h1 (by show s≤137438953472;omega) (by omega)
 have b1:=b.nf
 have b2:=b'.nf
 have hg:gz (nf a) (nf c)=gz a c:=by rw [YW,VI]
 have hx1:=QV a
 rw [←hg]
 generalize qB:nf a=x0 at *
 generalize UR:nf c=y0 at *
 generalize hG:gz x0 y0=G at *
 refine cB [(0,PI a.l),(1,PI c.l)] Tryz.func203 ?_
 generalize a.l=al at *
 generalize c.l=cl at *
 refine aA [0,1] ?_
 refine jG ?_
 refine cM p1 ?_
 refine cN [0,1] p2 ?_
 refine W.seq ?_
 refine W.block ?_
 refine W.aY (fun k σ=>∃(x y:ZX) (s:Nat) (rows:Pm.Rows) (clk:Nat),σ=⟨fa [(0,PI x.l),(1,PI y.l)],rows,clk⟩∧BZ s n x∧BZ s n y∧1≤s∧B3 C n s x y∧gz x y=G∧nf x=x∧nf y=y∧k=ZX.N y) (ZX.N y0) ?_ ?_
 ·exact⟨_, .refl,x0,y0,s,_,_,rfl,b1,b2,h1,hP,hG,hx1,by rw [←UR,QV],rfl⟩
 rintro k _ ⟨x,y,s,rows,clk,rfl,bx,uJ,h1,hp,hgz,hnx,hny,rfl⟩
 have hs:=hp.le
 have hlx:=bx.len
 have hly:=uJ.len
 refine aK [0,1,11] ?_
 refine bH ?_ ?_<;>intro h
 ·have hy:y≠0:=ZX.aF.2 (by show 0<y.l.length;simp at h;omega)
  obtain⟨hrl,hN,m,q,hm,e⟩:=uL (a:=x) hy
  have br:=Y8 bx uJ hy
  have hmul:(x.l.length+1-y.l.length+1)*(s+n+1)≤22*4500000000:=Nat.mul_le_mul (by omega) (by omega)
  have amQ:(ZX.N x+1-ZX.N y)*(s+n+1)≤22*4500000000:=Nat.mul_le_mul (by have:ZX.N x=x.l.length:=rfl;omega) (by omega)
  have hR:=I2 (s:=s) (s':=s) (N:=n) bx uJ x.c y.c (ZX.aF.1 hy) (by omega) (by show _<137438953472;omega)
  rw [←hrl]at hR
  have pr:=mG br (by omega) (by show _≤137438953472;omega) (by omega)
  have IP:ZX.N (nf (rz x y))<ZX.N y:=by rw [zS];exact hN
  have SP:=hp.step IP
  have pT:=LS hm (show (1:Int)≠0 by decide) e
  rw [←VI y (rz x y)]at pT
  have br2:=br.nf
  have hnn:=QV (rz x y)
  generalize (rz x y).l=rl at *
  generalize nf (rz x y)=r2 at *
  refine W.skip ?_
  refine W.block ?_
  refine W.bY (fun K hK=>?_)
  simp (disch:=omega) [gw]
  refine cM hR ?_
  refine cM pr ?_
  refine hK _ ⟨ZX.N r2,_,aB _ [0,1],IP,y,r2,_,_,_,rfl,uJ.mono (by omega) (Nat.le_refl _),br2,by omega,SP,by rw [←pT,hgz],hny,hnn,rfl⟩
 ·have hy:y=0:=by
   refine Classical.byContradiction fun h0=>?_
   have h1:=ZX.aF.1 h0
   have h2:ZX.N y=y.l.length:=rfl
   simp at h;rw [h2,h]at h1;simp at h1
  subst hy
  rw [uI,hnx]at hgz
  subst hgz
  refine eW ?_
  refine aA [4] ?_
  exact bZ
theorem abH{h h' n:Nat}{a c:ZX}(b:BZ h n a)(b':BZ h' n c)(h1:1≤h)(ha:Nf a)(hc:Nf c)(hd:ZX.dv c a)(hB:h+(n+1)*(h'+n+2)+h'+n+n+10<137438953472):aE env.P 256 [PI a.l,PI c.l] (.dX [PI (qz a c).l,PI []]):=by
 obtain⟨hw,e⟩:=o7 ha hc hd
 have hD:=QN a.l c.l b b' a.c c.c (ZX.aF.1 hc.ne) h1 hB
 obtain⟨e1,e2⟩:=afk (q:=(qz a c).l) a.c c.c (ZX.aF.1 hc.ne) (qz a c).c fun t=>by
  conv=>lhs;rw [e]
  rw [ZX.eM]
 rw [e1,e2,rQ,rQ,rQ]at hD
 exact hD
def zq(a:ZX):List PV:=[PI a.l]
@[simp] theorem aCA{a:ZX}:zq a = [PI a.l]:=rfl
@[simp] theorem atq{l:List ZX}:bK 1 (emap zq l)=True:=cL fun _=>rfl
@[simp] theorem aqF{v e n:Nat}{l:List ZX}:c9 (some ⟨v,e,n,emap zq l⟩)=True:=b8 fun _=>rfl
@[simp] theorem aCB{l:List ZX}{a:ZX}:emap zq l ++ [[aH ri a.l]]=emap zq (l ++ [a]):=by simp [emap]
theorem rZ.qd{s n:Nat}{a c d:ZX}(h:rZ s n a)(h1:1≤s)(ha:Nf a)(hc:Nf c)(hd:Nf d)(hca:ZX.dv c a)(hdc:ZX.dv d c):aE env.P 256 [PI c.l,PI d.l] (.dX [PI (qz c d).l,PI []])∧aE env.P 78 [PI (qz c d).l] (PI (qz c d).l):=by
 have b:=h.dv ha hc hca
 have b2:=h.dv ha hd (hdc.trans hca)
 have hq:=h.tF
 have hn:=h.hn
 obtain⟨hw,e⟩:=o7 hc hd hdc
 have bq:=h.dv ha hw ((afx hc hd hdc).trans hca)
 have hm:(n+1)*(qb s n+n+2)≤21*4500000000:=Nat.mul_le_mul (by omega) (by omega)
 have aqG:1≤qb s n:=by unfold qb;omega
 refine⟨abH b b2 aqG hc hd hdc (by omega),?_⟩
 have:=mG bq aqG (by show _≤137438953472;omega) (by omega)
 rwa [hw.nfe]at this
theorem rZ.qgd{s n:Nat}{a c:ZX}(h:rZ s n a)(ha:Nf a)(hc:Nf c)(hd:ZX.dv c a):aE env.P 160 [PI c.l] (PI (ZX.bX c).l)∧aE env.P 203 [PI c.l,PI (ZX.bX c).l] (PI (gd c).l):=by
 have b:=h.dv ha hc hd
 have b2:=b.bX (by have:=h.hn;omega)
 have hq:=h.tF
 have hn:=h.hn
 have aqG:1≤qb s n:=by unfold qb;omega
 refine⟨rD b (by show _≤137438953472;omega) (by omega),I3 (s:=qb s n+5) (b.mono (by omega) (Nat.le_refl _)) b2 ?_ h.hn (C:=4500000000) (Nat.le_refl _) (by omega)⟩
 have hN:=ZX.oE c
 have h1:ZX.N c≤n:=b.N
 have h2:=ZX.aF.1 hc.ne
 unfold B3
 rw [zS,zS,if_pos (by omega)]
 refine Nat.le_trans (Nat.mul_le_mul (show qb s n+5+n+1≤qb s n+n+6 by omega) (Nat.pow_le_pow_right (by decide) h1)) h.hC
theorem LW{s n:Nat}{a:ZX}(h:rZ s n a)(h1:1≤s):aE env.P 207 [PI a.l] (aH zq (fl (nf a))):=by
 have hqb:=h.tF
 have hn:=h.hn
 have vT:s≤4500000000:=by unfold qb at hqb;omega
 have p1:=mG h.bz h1 (by show s≤137438953472;omega) (by omega)
 have hA:=h.nfz
 have hNa:ZX.N a=a.l.length:=rfl
 have hNN:=zS a
 have hle:=QX (nf a)
 have hNA:ZX.N (nf a)≤n:=hA.bz.N
 refine cB [(0,PI a.l)] Tryz.func207 ?_
 refine aA [0] ?_
 refine aK [0,2,15] ?_
 refine bH ?_ ?_<;>intro h
 ·have h2:ZX.N a≤1:=by simp at h;omega
  have h3:fl (nf a) = []:=by unfold fl;rw [Q4 (by rw [hNN];exact h2)];rfl
  rw [h3]
  refine aA [2] ?_
  refine W.UJ 2 (aH zq []) (by simp) rfl (fun K hK=>?_)
  refine W.lw [2] hK ?_;clear hK K;simp
  exact bZ
 have h2:2≤ZX.N a:=by simp at h;omega
 have nA:Nf (nf a):=jV (ZX.aF.2 (by omega))
 clear h
 generalize nf a=A at *
 obtain⟨m,hm⟩:∃m,m=nl A:=⟨_,rfl⟩
 have hfl:fl A=(List.range m).map (oP A):=by rw [hm];rfl
 rw [hfl]
 refine W.skip ?_
 refine aL [0] p1 ?_
 refine aA [0,3] ?_
 refine W.amP 1 rfl rfl (fun K hK=>?_)
 simp (disch:=omega) [gw]
 refine W.lw [3,4] hK ?_;clear hK K;simp
 refine W.seq ?_
 refine W.block ?_
 refine W.aY (fun k σ=>∃(i ver:Nat) (rows:Pm.Rows) (clk:Nat),σ=⟨fa [(3, .nil),(4, .own 19 ver 0 (i+1))],rows,clk⟩∧rows 19=some ⟨ver,46,1,emap zq ((List.range (i+1)).map (gs A))⟩∧i+k=m) m ?_ ?_
 ·exact⟨_, .refl,0,_,_,_,rfl,by simp [emap,gs],by omega⟩
 rintro k _ ⟨i,ver,rows,clk,rfl,hr,uA⟩
 have vX:((List.range (i+1)).map (gs A)).length=i+1:=by simp
 have zT:nth ((List.range (i+1)).map (gs A)) i=gs A i:=gK _ (by omega)
 have er:(List.range (i+1+1)).map (gs A)=(List.range (i+1)).map (gs A) ++ [gs A (i+1)]:=by rw [List.range_succ,List.map_append];rfl
 have e1:((i:Int)+1-1).toNat=i:=by omega
 generalize hL:(List.range (i+1)).map (gs A)=L at *
 refine W.seq ?_
 refine W.sr ?_
 simp (disch:=omega) [gw,hr,vX,zT]
 refine bI [3,4,27] ?_
 refine bH ?_ ?_<;>intro h
 ·have h3:2≤ZX.N (gs A i):=by
   have h4:ZX.N (gs A i)=(gs A i).l.length:=rfl
   simp at h;omega
  clear h
  have hi:i<nl A:=by
   rcases Nat.lt_or_ge i (nl A)with h4 | h4
   ·exact h4
   ·have h5:=(nP A).1
    rw [show nl A=i by omega]at h5;omega
  obtain⟨t1,t2⟩:=hA.qgd nA (oF nA i) (I1 A i)
  rw [show gd (gs A i)=gs A (i+1)from rfl]at t2
  generalize hg:(gs A i).l=g at *
  generalize pT:gs A (i+1)=g2 at *
  refine W.skip ?_
  refine W.block ?_
  refine W.sr ?_
  simp (disch:=omega) [gw,hr,vX,zT,hg]
  refine bI [3,4,5] ?_
  refine W.bY (fun K hK=>?_)
  simp (disch:=omega) [gw]
  refine cM t1 ?_
  refine aC t2 ?_
  simp (disch:=omega) [gw,hr,vX]
  refine hK _ ⟨k-1,_,aB _ [3,4],by omega,i+1,_,_,_,rfl,by rw [er];simp,by omega⟩
 have h3:ZX.N (gs A i)≤1:=by
  have h4:ZX.N (gs A i)=(gs A i).l.length:=rfl
  simp at h;omega
 clear h
 have hi:i=m:=by
  rcases Nat.lt_or_ge i (nl A)with h4 | h4
  ·have:=(nP A).2 i h4;omega
  ·omega
 subst hi
 have hR:L ++ [(1:ZX)]=(List.range (i+2)).map (gs A):=by
  rw [show(1:ZX)=gs A (i+1)by rw [hm,QY nA 1]]
  exact er.symm
 have jR:=x7
 generalize hz:(1:ZX)=z1 at *
 refine eW ?_
 refine jG ?_
 refine aC jR ?_
 simp (disch:=omega) [gw,hr,vX]
 refine bI [3,4] ?_
 clear hr zT e1 er hL vX
 have hRl:(L ++ [z1]).length=i+2:=by rw [hR];simp
 have zT:∀j,j<i+2→nth (L ++ [z1]) j=gs A j:=fun j hj=>by rw [hR];exact gK _ hj
 generalize L ++ [z1]=R at *
 have hRt:List.take (i+2) R=R:=List.take_of_length_le (by omega)
 refine W.freeze 19 (by simp) (fun K hK=>?_)
 simp [hRt]
 refine hK _ ?_;clear hK K
 refine W.nil 3 3 46 1 (by simp) (by decide) (fun K hK=>?_)
 refine W.lw [3,4] hK ?_;clear hK K;simp
 refine aK [3,4,6] ?_
 refine W.block ?_
 refine W.aY (fun k σ=>∃(j ver:Nat) (rows:Pm.Rows) (clk:Nat),σ=⟨fa [(3, .own 3 ver 0 j),(4,aH zq R),(6, .int .i64 j)],rows,clk⟩∧rows 3=some ⟨ver,46,1,emap zq ((List.range j).map (oP A))⟩∧j+k=i) i ?_ ?_
 ·exact⟨_, .refl,0,_,_,_,rfl,by simp [emap],by omega⟩
 clear rows clk ver uA k
 rintro k _ ⟨j,ver,rows,clk,rfl,hr,hjk⟩
 have hjl:((List.range j).map (oP A)).length=j:=by simp
 refine W.seq ?_
 refine W.sr ?_
 simp (disch:=omega) [gw,hRl]
 refine bI [3,4,6,50] ?_
 refine bH ?_ ?_<;>intro h
 ·have hj:j<i:=by simp at h;omega
  clear h
  have er:(List.range (j+1)).map (oP A)=(List.range j).map (oP A) ++ [oP A j]:=by rw [List.range_succ,List.map_append];rfl
  have n0:=zT j (by omega)
  have n1:=zT (j+1) (by omega)
  have n2:=zT (j+2) (by omega)
  have l0:j<R.length:=by omega
  have l1:j+1<R.length:=by omega
  have l2:j+2<R.length:=by omega
  have e1:((j:Int)+1).toNat=j+1:=by omega
  have e2:((j:Int)+2).toNat=j+2:=by omega
  obtain⟨d1,q1⟩:=hA.qd h1 nA (oF nA j) (oF nA (j+1)) (I1 A j) (BD _)
  obtain⟨d2,q2⟩:=hA.qd h1 nA (oF nA (j+1)) (oF nA (j+2)) (I1 A (j+1)) (BD _)
  obtain⟨d3,q3⟩:=hA.qd h1 nA (gR nA j).1 (gR nA (j+1)).1 (CG nA j) (Q0 nA j)
  rw [show qz (gs A j) (gs A (j+1))=wz A j from rfl]at d1 q1
  rw [show qz (gs A (j+1)) (gs A (j+2))=wz A (j+1)from rfl]at d2 q2
  rw [show qz (wz A j) (wz A (j+1))=oP A j from rfl]at d3 q3
  have h0:(nth R j).l=(gs A j).l:=by rw [n0]
  have TC:(nth R (j+1)).l=(gs A (j+1)).l:=by rw [n1]
  have h2':(nth R (j+2)).l=(gs A (j+2)).l:=by rw [n2]
  generalize (gs A j).l=g0 at *
  generalize (gs A (j+1)).l=g1 at *
  generalize (gs A (j+2)).l=g2 at *
  generalize (wz A j).l=w0 at *
  generalize (wz A (j+1)).l=w1 at *
  generalize hF:oP A j=F at *
  generalize hac:(List.range j).map (oP A)=acc at *
  refine j7 ?_
  refine W.sd ?_
  simp (disch:=omega) [gw,h0,TC,e1]
  refine cN [3,4,6,7] d1 ?_
  refine W.sd ?_
  simp (disch:=omega) [gw,TC,h2',e1,e2]
  refine cN [3,4,6,7,9] d2 ?_
  refine jG ?_
  refine cM q1 ?_
  refine cM q2 ?_
  refine cN [3,4,6,11] d3 ?_
  refine W.bY (fun K hK=>?_)
  simp (disch:=omega) [gw]
  refine aC q3 ?_
  simp (disch:=omega) [gw,hr,hjl]
  refine W.lw [3,4,6] hK ?_;clear hK K;simp
  refine W.bY (fun K hK=>?_);simp (disch:=omega) [gw]
  refine hK _ ⟨k-1,_,aB _ [3,4,6],by omega,j+1,_,_,_,rfl,by rw [er];simp,by omega⟩
 ·have hj:j=i:=by simp at h;omega
  subst hj
  generalize (List.range j).map (oP A)=acc at *
  have yV:List.take j acc=acc:=List.take_of_length_le (by omega)
  refine eW ?_
  refine W.sr ?_
  simp (disch:=omega) [gw,hr,yV]
  refine bI [2] ?_
  refine W.ret ?_
  simp [go,hr,yV]
theorem x8{s n:Nat}{a:ZX}(h:rZ s n a)(h1:1≤s):aE env.P 158 [PI a.l] (PI (sq a).l):=by
 have hqb:=h.tF
 have hn:=h.hn
 have hF:=LW h h1
 have hA:=h.nfz
 have hNa:ZX.N a=a.l.length:=rfl
 have hsq:ZX.N a≠0→sq a=pf (nf a) (fun _=>true) (nl (nf a)):=fun h0=>by
  have nA:=jV (ZX.aF.2 (Nat.pos_of_ne_zero h0))
  unfold sq
  split
  ·rename_i h2
   rw [Q4 (by rw [zS];exact h2),nA.N1 (by rw [zS];exact h2)];rfl
  ·rw [aqy nA]
 have hNf:ZX.N a≠0→Nf (nf a):=fun h0=>jV (ZX.aF.2 (Nat.pos_of_ne_zero h0))
 have hle:=QX (nf a)
 have hNA:ZX.N (nf a)≤n:=hA.bz.N
 have axe:ZX.N a=0→(sq a).l = []:=fun h0=>by
  have h2:a=0:=Classical.byContradiction fun h3=>by have:=ZX.aF.1 h3;omega
  unfold sq
  rw [if_pos (by omega),h2,lM];rfl
 generalize nf a=A at *
 refine cB [(0,PI a.l)] Tryz.func158 ?_
 refine aA [0] ?_
 refine aK [0,2,8] ?_
 refine W.cond ⟨_,rfl,fun h3=>?_,fun h3=>?_⟩
 ·have h0:ZX.N a=0:=by rw [hNa];simp at h3;rw [h3];rfl
  rw [axe h0]
  refine aA [2] ?_
  refine W.UJ 2 (PI []) (by simp) rfl (fun K hK=>?_)
  refine W.lw [2] hK ?_;clear hK K;simp
  exact bZ
 have h0:ZX.N a≠0:=by rw [hNa];simp at h3;intro h4;exact h3 (List.eq_nil_of_length_eq_zero h4)
 have nA:=hNf h0
 rw [hsq h0]
 clear h3 hsq axe hNf
 have hmul:∀i,aE env.P 199 [PI (pf A (fun _=>true) i).l,PI (oP A i).l] (PI (pf A (fun _=>true) (i+1)).l):=fun i=>by
  have b1:=hA.dv nA (BE nA (fun _=>true) i) (LU nA _ i)
  have b2:=hA.dv nA (CF nA i).1 (Y2 nA i)
  exact uE _ _ _ _ _ _ b1 b2 (by show _<137438953472;omega)
 obtain⟨m,hm⟩:∃m,m=nl A:=⟨_,rfl⟩
 have hfl:fl A=(List.range m).map (oP A):=by rw [hm];rfl
 rw [←hm]at hle ⊢
 rw [hfl]at hF
 have F7:((List.range m).map (oP A)).length=m:=by simp
 have zT:∀i,i<m→(nth ((List.range m).map (oP A)) i).l=(oP A i).l:=fun i hi=>by rw [gK _ hi]
 generalize (List.range m).map (oP A)=L at *
 have h1:=x7
 rw [show(1:ZX)=pf A (fun _=>true) 0 from rfl]at h1
 generalize hg:pf A (fun _=>true) 0=g0 at *
 refine W.skip ?_
 refine aL [0,3] h1 ?_
 refine aL [3,4] hF ?_
 refine W.seq ?_
 refine W.sr ?_
 simp (disch:=omega) [gw,F7]
 refine bI [3,4,14,15] ?_
 subst hg
 refine W.block ?_
 refine W.aY (fun k σ=>∃(i:Nat) (rows:Pm.Rows) (clk:Nat),σ=⟨fa [(3,PI (pf A (fun _=>true) i).l),(4,aH zq L),(14, .int .i64 m),(15, .int .i64 i)],rows,clk⟩∧i+k=m) m ?_ ?_
 ·exact⟨_, .refl,0,_,_,rfl,by omega⟩
 rintro k _ ⟨i,rows,clk,rfl,uA⟩
 refine bT [3,4,14,15,16] ?_
 refine bH ?_ ?_<;>intro h
 ·have hi:i<m:=by simp at h;omega
  have hiL:i<L.length:=by omega
  have ht:=hmul i
  have CI:=zT i hi
  generalize pT:pf A (fun _=>true) (i+1)=g2 at *
  generalize pf A (fun _=>true) i=g at *
  refine j7 ?_
  refine aA [3,4,5,14,15] ?_
  refine W.bY (fun K hK=>?_)
  simp (disch:=omega) [gw,CI]
  refine cM ht ?_
  refine W.lw [3,4,14,15] hK ?_;clear hK K;simp
  subst pT
  refine W.bY (fun K hK=>?_);simp (disch:=omega) [gw]
  refine hK _ ⟨k-1,_,aB _ [3,4,14,15],by omega,i+1,_,_,rfl,by omega⟩
 ·have hi:i=m:=by simp at h;omega
  subst hi
  refine eW ?_
  refine aA [2] ?_
  exact bZ
end Go.Proofs.YtiobceocpabjdaaGreat
