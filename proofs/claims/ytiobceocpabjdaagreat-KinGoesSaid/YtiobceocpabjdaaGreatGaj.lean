import Derived.Test.YtiobceocpabjdaaGreatGae
import Derived.Test.YtiobceocpabjdaaGreatGah
import Derived.Test.YtiobceocpabjdaaGreatGai
set_option linter.unusedSimpArgs false
set_option linter.unusedVariables false
namespace Pm
variable {c:Int}{k n h:Nat}
structure ZX where
 l:List Int
 c:Cn l
variable {x y z q w b g a r p:ZX}
namespace ZX
theorem ext{x y:ZX}(h:∀t,V t x.l=V t y.l):x=y:=by obtain⟨x,hx⟩:=x;obtain⟨y,hy⟩:=y;have:=Cn.ext hx hy h;subst this;rfl
def of(x:List Int):ZX:=⟨aK x,Cn.cut x⟩
def K(c:Int):ZX:=of [c]
instance:Zero ZX:=⟨⟨[],Cn.nil⟩⟩
instance:One ZX:=⟨K 1⟩
instance:Add ZX:=⟨fun x y=>⟨iw x.l y.l,Cn.iw _ _⟩⟩
instance:Mul ZX:=⟨fun x y=>⟨bN x.l y.l,Cn.bN _ _⟩⟩
instance:Neg ZX:=⟨fun x=>⟨gL x.l,Cn.gL _⟩⟩
instance:Sub ZX:=⟨fun x y=>⟨fC x.l y.l,Cn.fC _ _⟩⟩
def pow(x:ZX):Nat->ZX
 | 0=>1
 | n+1=>pow x n*x
instance:HPow ZX Nat ZX:=⟨pow⟩
instance:NatCast ZX:=⟨fun n=>K n⟩
instance (n:Nat):OfNat ZX n:=⟨K n⟩
instance:IntCast ZX:=⟨fun n=>K n⟩
instance:SMul Nat ZX:=⟨fun n x=>K n*x⟩
instance:SMul Int ZX:=⟨fun n x=>K n*x⟩
variable {t:Int}
theorem Li(x:List Int):V t (of x).l=V t x:=c8 x
theorem uK(c:Int):V t (K c).l=c:=by rw [K,Li];simp [V]
theorem uf:V t (0:ZX).l=0:=uK 0
theorem DH:V t (1:ZX).l=1:=uK 1
theorem lP(x y:ZX):V t (x+y).l=V t x.l+V t y.l:=rp _ _
theorem dN(x y:ZX):V t (x*y).l=V t x.l*V t y.l:=dq _ _
theorem DI(x:ZX):V t (-x).l = -V t x.l:=AG _
theorem am4(x y:ZX):V t (x-y).l=V t x.l-V t y.l:=iT _ _
theorem NT(x:ZX):∀n:Nat,V t (x^n).l=V t x.l^n
 | 0=>by show V t (1:ZX).l=_;rw [DH,Int.pow_zero]
 | n+1=>by show V t ((x^n)*x).l=_;rw [dN,NT x n,Int.pow_succ]
theorem NU(n:Nat):V t (OfNat.ofNat n:ZX).l=n:=uK n
theorem ac0(n:Int):V t (n:ZX).l=n:=uK n
theorem NV(n:Int)(x:ZX):V t (n • x).l=n*V t x.l:=by show V t (K n*x).l=_;rw [dN,uK]
instance:Lean.Grind.CommRing ZX where
 add_zero x:=ext fun t=>by rw [lP,uf];omega
 add_comm x y:=ext fun t=>by rw [lP,lP];omega
 add_assoc x y z:=ext fun t=>by simp only [lP];omega
 mul_assoc x y z:=ext fun t=>by simp only [dN];grind
 mul_one x:=ext fun t=>by rw [dN,DH];omega
 one_mul x:=ext fun t=>by rw [dN,DH];omega
 left_distrib x y z:=ext fun t=>by simp only [dN,lP];grind
 right_distrib x y z:=ext fun t=>by simp only [dN,lP];grind
 zero_mul x:=ext fun t=>by rw [dN,uf];omega
 mul_zero x:=ext fun t=>by rw [dN,uf];omega
 pow_zero x:=ext fun t=>by rw [NT,DH,Int.pow_zero]
 pow_succ x n:=ext fun t=>by rw [dN,NT,NT,Int.pow_succ]
 ofNat_succ n:=ext fun t=>by rw [lP,NU,NU,DH];omega
 ofNat_eq_natCast n:=rfl
 nsmul_eq_natCast_mul n x:=rfl
 neg_add_cancel x:=ext fun t=>by rw [lP,DI,uf];omega
 sub_eq_add_neg x y:=ext fun t=>by rw [am4,lP,DI];omega
 neg_zsmul n x:=ext fun t=>by rw [NV,DI,NV];grind
 zsmul_natCast_eq_nsmul n x:=rfl
 intCast_ofNat n:=rfl
 intCast_neg n:=ext fun t=>by rw [ac0,DI,ac0]
 mul_comm x y:=ext fun t=>by rw [dN,dN,Int.mul_comm]
def N(x:ZX):Nat:=x.l.length
theorem ax:x≠0↔0<N x:=by
 constructor
 ·intro h
  rcases Nat.eq_zero_or_pos (N x)with h1 | h1
  ·exfalso;apply h;have:x.l = []:=List.eq_nil_of_length_eq_zero h1;exact ext fun t=>by rw [this,uf];rfl
  ·exact h1
 ·rintro h rfl;have:N (0:ZX)=0:=ar;omega
theorem UT:N (0:ZX)=0:=by decide
theorem i9(hx:x≠0)(hy:y≠0):N (x*y)=N x+N y-1:=jC x.c y.c (ax.1 hx) (ax.1 hy)
theorem kB(hx:x≠0)(hy:y≠0):x*y≠0:=by rw [ax,i9 hx hy];have:=ax.1 hx;have:=ax.1 hy;omega
theorem rL(h:x*y=0):x=0∨y=0:=by
 by_cases hx:x=0
 ·exact .inl hx
 ·by_cases hy:y=0
  ·exact .inr hy
  ·exact absurd h (kB hx hy)
theorem DJ(x y:ZX):x*y=y*x:=by grind
theorem cancel(hz:z≠0)(h:z*x=z*y):x=y:=by
 have h1:z*(x-y)=0:=aG
 rcases rL h1 with h2 | h2
 ·exact absurd h2 hz
 ·grind
theorem oc(h:c≠0):K c≠0:=fun e=>h (by have:=uK (t:=0) c;rw [e,uf]at this;omega)
theorem XN(h:c≠0):N (K c)=1:=by show(aK [c]).length=1;rw [show aK [c] = [c]from iJ h []];rfl
theorem oO(c d:Int):K c*K d=K (c*d):=ext fun t=>by rw [dN,uK,uK,uK]
theorem j1(h:N x=1):∃c,c≠0∧x=K c:=by
 obtain⟨l,hl⟩:=x
 match l,hl,h with
 | [c],hl,_ =>
  have hc:c≠0:=by have:=cZ hl av;simpa [lead,sG]using this
  exact⟨c,hc,ext fun t=>by rw [uK];simp [V]⟩
theorem l6(hc:c≠0)(hx:x≠0)(h:K c*x=q*y):q≠0∧y≠0:=by
 have h1:=kB (oc hc) hx;rw [h]at h1
 constructor
 ·rintro rfl;apply h1;grind
 ·rintro rfl;apply h1;grind
theorem mJ:(1:ZX)≠0:=oc ar
theorem tL:N (1:ZX)=1:=XN ar
def dv(y x:ZX):Prop:=∃c:Int,c≠0 ∧ ∃q,K c*x=q*y
theorem dv.refl(x:ZX):dv x x:=⟨1,ar,K 1,rfl⟩
theorem dv.zero(x:ZX):dv x 0:=⟨1,ar,0,aG⟩
theorem dv.trans(h1:dv x y)(h2:dv y z):dv x z:=by obtain⟨c,hc,q,h1⟩:=h1;obtain⟨d,hd,r,h2⟩:=h2;exact⟨c*d,Int.mul_ne_zero hc hd,q*r,by rw [<-oO];grind⟩
theorem dv.mul_right(h:dv x y)(z:ZX):dv x (y*z):=by obtain⟨c,hc,q,h⟩:=h;exact⟨c,hc,q*z,aG⟩
theorem dv.mul_left(h:dv x y)(z:ZX):dv x (z*y):=by obtain⟨c,hc,q,h⟩:=h;exact⟨c,hc,q*z,aG⟩
theorem dv.mul(h1:dv x y)(h2:dv z w):dv (x*z) (y*w):=by obtain⟨c,hc,q,h1⟩:=h1;obtain⟨d,hd,r,h2⟩:=h2;exact⟨c*d,Int.mul_ne_zero hc hd,q*r,by rw [<-oO];grind⟩
theorem dv.add(h1:dv x y)(h2:dv x z):dv x (y+z):=by obtain⟨c,hc,q,h1⟩:=h1;obtain⟨d,hd,r,h2⟩:=h2;exact⟨c*d,Int.mul_ne_zero hc hd,K d*q+K c*r,by rw [<-oO];grind⟩
theorem dv.CD(hc:c≠0)(h:dv x (K c*y)):dv x y:=by obtain⟨d,hd,q,h⟩:=h;exact⟨d*c,Int.mul_ne_zero hd hc,q,by rw [<-oO];grind⟩
theorem dv.j2(h:dv x y)(hy:y≠0):N x<=N y:=by
 obtain⟨c,hc,q,h⟩:=h;obtain⟨h1,h2⟩:=l6 hc hy h;have h3:N (K c*y)=N y:=by rw [i9 (oc hc) hy,XN hc];have:=ax.1 hy;omega
 rw [h,i9 h1 h2]at h3;have:=ax.1 h1;omega
theorem dv.ne(h:dv x y)(hy:y≠0):x≠0:=by obtain⟨c,hc,q,h⟩:=h;exact(l6 hc hy h).2
theorem zi(h:dv 0 x):x=0:=by obtain⟨c,hc,q,h⟩:=h;have h2:K c*x=0:=aG;exact(rL h2).resolve_left (oc hc)
theorem am5(hc:c≠0)(x:ZX):dv (K c) x:=⟨c,hc,x,aG⟩
theorem Z4(h:dv x y)(hy:y≠0)(hN:N x=N y):dv y x:=by
 obtain⟨c,hc,q,h⟩:=h;obtain⟨h1,h2⟩:=l6 hc hy h;have h3:N (K c*y)=N y:=by rw [i9 (oc hc) hy,XN hc];have:=ax.1 hy;omega
 rw [h,i9 h1 h2]at h3;have h4:=ax.1 h1;have h5:=ax.1 h2;obtain⟨d,hd,rfl⟩:=j1 (x:=q) aa;exact⟨d,hd,K c,by rw [h]⟩
theorem Vl(a:ZX)(hb:b≠0):∃c:Int,c≠0 ∧ ∃q r,K c*a=q*b+r∧N r<N b:=by
 have h0:=ax.1 hb;obtain⟨c1,c2⟩:=AK (b:=b.l) a.c
 refine⟨lead b.l^jn a.l b.l,Int.pow_ne_zero (cZ b.c h0),⟨_,c1⟩,⟨_,c2⟩,ext fun t=>?_,?_⟩
 ·rw [dN,uK,lP,dN];exact(Ud t a.l b.l).symm
 ·have:=EX (a:=a.l) h0;show(xV a.l b.l).2.length<b.l.length;have:0<b.l.length:=h0;omega
structure qC(g a b:ZX):Prop where
 l:dv g a
 r:dv g b
 uv:∃c:Int,c≠0 ∧ ∃u v,K c*g=u*a+v*b
theorem qC.least{d:ZX}(h:qC g a b)(ha:dv d a)(hb:dv d b):dv d g:=by obtain⟨c,hc,u,v,e⟩:=h.uv;refine dv.CD hc ?_;rw [e];exact(ha.mul_left u).add (hb.mul_left v)
theorem qC.ne(h:qC g a b)(ha:a≠0∨b≠0):g≠0:=by
 rintro rfl
 rcases ha with h1 | h1
 ·exact h1 (zi h.l)
 ·exact h1 (zi h.r)
theorem qC.zero(a:ZX):qC a a 0:=⟨dv.refl a,dv.zero a,1,ar,1,0,by show(1:ZX)*a=_;grind⟩
theorem qC.symm(h:qC g a b):qC g b a:=by obtain⟨c,hc,u,v,e⟩:=h.uv;exact⟨h.r,h.l,c,hc,v,u,aG⟩
theorem qC.step(hc:c≠0)(e:K c*a=q*b+r)(h:qC g b r):qC g a b:=by obtain⟨d,hd,u,v,e2⟩:=h.uv;refine⟨dv.CD hc ?_,h.l,d,hd,v*K c,u-v*q,aG⟩;rw [e];exact(h.l.mul_left q).add h.r
theorem jr:∀(n:Nat) (a b:ZX),N b<=n -> ∃g,qC g a b
 | 0,a,b,h=>by
  have:b=0:=Classical.byContradiction fun hb=>by have:=ax.1 hb;omega
  subst this;exact⟨a,qC.zero a⟩
 | n+1,a,b,h=>by
  by_cases hb:b=0
  ·subst hb;exact⟨a,qC.zero a⟩
  ·obtain⟨c,hc,q,r,e,hr⟩:=Vl a hb;obtain⟨g,hg⟩:=jr n b r aa;exact⟨g,hg.step hc e⟩
structure od(p:ZX):Prop where
 Z5:2<=N p
 irr:∀d,dv d p->N d=1∨N d=N p
theorem od.ne(h:od p):p≠0:=ax.2 (by have:=h.Z5;omega)
theorem od.ac1(hp:od p)(h:dv p (a*b)):dv p a∨dv p b:=by
 obtain⟨g,hg⟩:=jr _ p a (Nat.le_refl _)
 rcases hp.irr g hg.l with h1 | h1
 ·right;obtain⟨k,hk,rfl⟩:=j1 h1;obtain⟨c,hc,u,v,e⟩:=hg.uv;refine dv.CD (c:=c*k) (Int.mul_ne_zero hc hk) ?_;have e2:K (c*k)*b=(u*b)*p+v*(a*b):=by rw [<-oO];grind
  rw [e2];exact((dv.refl p).mul_left _).add (h.mul_left v)
 ·left;exact(Z4 hg.l hp.ne h1).trans hg.r
theorem mK:∀(n:Nat) (a:ZX),N a<=n->2<=N a -> ∃p,od p∧dv p a
 | 0,a,h,h2=>by omega
 | n+1,a,h,h2=>by
  by_cases hi:∃d,dv d a∧N d≠1∧N d≠N a
  ·obtain⟨d,hd,h3,h4⟩:=hi;have h5:=hd.j2 (ax.2 aa);have h6:=ax.1 (hd.ne (ax.2 aa));obtain⟨p,hp,hpd⟩:=mK n d aa aa;exact⟨p,hp,hpd.trans hd⟩
  ·refine⟨a,⟨h2,fun d hd=>?_⟩,dv.refl a⟩
   by_cases h3:N d=1
   ·exact .inl h3
   ·by_cases h4:N d=N a
    ·exact .inr h4
    ·exact absurd ⟨d,hd,h3,h4⟩ hi
theorem pow_succ'(p:ZX)(k:Nat):p^(k+1)=p^k*p:=rfl
theorem dX(p:ZX):p^0=1:=rfl
theorem pow_add'(p:ZX)(j:Nat):∀k,p^(j+k)=p^j*p^k
 | 0=>by rw [Nat.add_zero,dX];grind
 | k+1=>by rw [<-Nat.add_assoc,pow_succ',pow_succ',pow_add' p j k];grind
theorem Fp{p:ZX}(hp:p≠0):∀k:Nat,p^k≠0
 | 0=>mJ
 | k+1=>kB (Fp hp k) hp
theorem Vm{p:ZX}(hp:od p):∀k:Nat,k<N (p^k)
 | 0=>by rw [dX,tL];omega
 | k+1=>by rw [pow_succ',i9 (Fp hp.ne k) hp.ne];have:=Vm hp k;have:=hp.Z5;omega
theorem Vn{j:Nat}(h:j<=k):dv (p^j) (p^k):=by obtain⟨d,rfl⟩:=Nat.exists_eq_add_of_le h;rw [pow_add'];exact(dv.refl _).mul_right _
theorem Q3(hp:od p)(ha:a≠0):∃k,dv (p^k) a∧¬dv (p^(k+1)) a:=by
 have key:∀n,(∃k,k<=n∧dv (p^k) a∧¬dv (p^(k+1)) a)∨dv (p^(n+1)) a:=by
  intro n
  induction n with
  | zero =>
   by_cases h:dv (p^1) a
   ·exact .inr h
   ·exact .inl ⟨0,Nat.le_refl _,am5 ar a,h⟩
  | succ n ih =>
   rcases ih with ⟨k,h1,h2⟩ | ih
   ·exact .inl ⟨k,aa,h2⟩
   ·by_cases h:dv (p^(n+2)) a
    ·exact .inr h
    ·exact .inl ⟨n+1,Nat.le_refl _,ih,h⟩
 rcases key (N a)with ⟨k,_,h⟩ | h
 ·exact⟨k,h⟩
 ·have h1:=h.j2 ha;have h2:=Vm hp (N a+1);omega
open Classical in
noncomputable def mu(p a:ZX):Nat:=if h:∃k,dv (p^k) a∧¬dv (p^(k+1)) a then h.choose else 0
theorem NW(hp:od p)(ha:a≠0):dv (p^mu p a) a∧¬dv (p^(mu p a+1)) a:=by have h:=Q3 hp ha;unfold mu;rw [dif_pos h];exact h.choose_spec
theorem ja(hp:od p)(ha:a≠0):k<=mu p a↔dv (p^k) a:=by
 obtain⟨h1,h2⟩:=NW hp ha
 constructor
 ·intro h;exact(Vn h).trans h1
 ·intro h
  rcases Nat.lt_or_ge (mu p a) k with h3 | h3
  ·exact absurd ((Vn h3).trans h) h2
  ·exact h3
theorem Bp(hp:od p)(ha:a≠0):∃c:Int,c≠0 ∧ ∃b,b≠0∧K c*a=b*p^mu p a∧¬dv p b:=by obtain⟨⟨c,hc,b,e⟩,h2⟩:=NW hp ha;refine⟨c,hc,b,(l6 hc ha e).1,e,fun h=>h2 (dv.CD hc ?_)⟩;rw [e,pow_succ'];have:=h.mul (dv.refl (p^mu p a));rw [show p^mu p a*p=p*p^mu p a by grind];exact this
theorem xm(hp:od p)(ha:a≠0)(hc:c≠0)(e:K c*a=b*p^k)(h:¬dv p b):mu p a=k:=by
 have h1:k<=mu p a:=(ja hp ha).2 ⟨c,hc,b,e⟩
 rcases Nat.lt_or_ge k (mu p a)with h2 | h2
 ·exfalso;obtain⟨d,hd,r,e2⟩:=(ja hp ha).1 h2;apply h;refine⟨d,hd,K c*r,ZX.cancel (Fp hp.ne k) ?_⟩;rw [pow_succ']at e2;grind
 ·omega
theorem rM(hp:od p)(ha:a≠0)(hb:b≠0):mu p (a*b)=mu p a+mu p b:=by
 obtain⟨c,hc,x,_,e1,h1⟩:=Bp hp ha;obtain⟨d,hd,y,_,e2,h2⟩:=Bp hp hb
 refine xm (b:=x*y) hp (kB ha hb) (Int.mul_ne_zero hc hd) ?_ fun h=>?_
 ·rw [pow_add',<-oO];grind
 ·rcases hp.ac1 h with h3 | h3
  ·exact h1 h3
  ·exact h2 h3
theorem Q4(hp:od p)(hc:c≠0):mu p (K c)=0:=by refine xm (b:=K c) (c:=1) hp (oc hc) ar (by rw [dX];show(1:ZX)*K c=_;grind) fun h=>?_;have:=h.j2 (oc hc);rw [XN hc]at this;have:=hp.Z5;omega
theorem NX(hp:od p)(hb:b≠0)(h:dv a b):mu p a<=mu p b:=(ja hp hb).2 (((ja hp (h.ne hb)).1 (Nat.le_refl _)).trans h)
theorem ac2(hp:od p)(hc:c≠0)(ha:a≠0)(e:K c*a=q*b):mu p a=mu p q+mu p b:=by obtain⟨h1,h2⟩:=l6 hc ha e;rw [<-rM hp h1 h2,<-e,rM hp (oc hc) ha,Q4 hp hc];omega
theorem Ic:∀(n:Nat) (a b:ZX),N a<=n->a≠0->b≠0->(∀p,od p->mu p a<=mu p b)->dv a b
 | 0,a,b,hn,ha,_,_=>by have:=ax.1 ha;omega
 | n+1,a,b,hn,ha,hb,h=>by
  rcases Nat.lt_or_ge (N a) 2 with h1 | h1
  ·obtain⟨c,hc,rfl⟩:=j1 (x:=a) (by have:=ax.1 ha;omega);exact am5 hc b
  ·obtain⟨p,hp,SM⟩:=mK _ a (Nat.le_refl _) h1;have h2:1<=mu p a:=(ja hp ha).2 (by rw [show p^1=p by rw [pow_succ',dX];grind];exact SM);have h3:dv p b:=(by have:=(ja hp hb).1 (Nat.le_trans h2 (h p hp));rwa [show p^1=p by rw [pow_succ',dX];grind]at this);obtain⟨c,hc,a',ea⟩:=SM;obtain⟨d,hd,b',eb⟩:=h3;obtain⟨CQ,_⟩:=l6 hc ha ea;obtain⟨gC,_⟩:=l6 hd hb eb;have h4:N (K c*a)=N a:=by rw [i9 (oc hc) ha,XN hc];have:=ax.1 ha;omega
   have h5:dv a' b':=Ic n a' b' (by
    rw [ea,i9 CQ hp.ne]at h4;have:=hp.Z5;omega) CQ gC fun r hr=>by
    have h6:=h r hr;rw [ac2 hr hc ha ea,ac2 hr hd hb eb]at h6;omega
   refine dv.CD hd ?_;rw [eb];have h7:=h5.mul (dv.refl p);rw [<-ea]at h7;obtain⟨e,he,q,e3⟩:=h7;exact⟨e,he,q*K c,aG⟩
theorem jE(ha:a≠0)(hb:b≠0):dv a b ↔ ∀p,od p->mu p a<=mu p b:=⟨fun h p hp=>NX hp hb h,Ic _ a b (Nat.le_refl _) ha hb⟩
theorem qC.mu{g a b p:ZX}(h:qC g a b)(ha:a≠0)(hb:b≠0)(hp:od p):mu p g=min (ZX.mu p a) (ZX.mu p b):=by have hg:=h.ne (.inl ha);have h1:=NX hp ha h.l;have h2:=NX hp hb h.r;have h3:min (ZX.mu p a) (ZX.mu p b)<=ZX.mu p g:=(ja hp hg).2 (h.least ((ja hp ha).1 (Nat.min_le_left _ _)) ((ja hp hb).1 (Nat.min_le_right _ _)));omega
def xn(x:List Int):List Int:=(List.range (x.length-1)).map fun i=>nth x (i+1)*((i+1:Nat):Int)
def qx:Nat->List Int->List Int
 | _,[]=>[]
 | k,a::l=>a*(k:Int)::qx (k+1) l
def W(t:Int):List Int->Int
 | []=>0
 | _::l=>V t l+t*W t l
theorem NY:∀(l:List Int) (k:Nat),qx k l=(List.range l.length).map fun i=>nth l i*((k+i:Nat):Int)
 | [],k=>rfl
 | a::l,k=>by rw [qx,NY l (k+1),List.length_cons,List.range_succ_eq_map,List.map_cons,List.map_map];congr 1;refine List.map_congr_left fun i _=>?_;simp only [Function.comp_apply,jD];rw [show k+1+i=k+(i+1)by omega]
theorem DK(a:Int)(l:List Int):xn (a::l)=qx 1 l:=by rw [NY,xn,List.length_cons,Nat.add_sub_cancel];refine List.map_congr_left fun i _=>?_;rw [jD,show i+1=1+i by omega]
theorem yi(t:Int):∀(l:List Int) (k:Nat),V t (qx (k+1) l)=V t (qx k l)+V t l
 | [],k=>by simp [qx,V]
 | a::l,k=>by simp only [qx,V];rw [yi t l (k+1)];have:((k+1:Nat):Int)=(k:Int)+1:=aa;rw [this];grind
theorem Bq(t:Int):∀l:List Int,V t (qx 1 l)=V t l+t*W t l
 | []=>by simp [qx,V,W]
 | b::m=>by rw [qx];simp only [V,W];rw [yi,Bq t m];rw [show((1:Nat):Int)=1 from rfl];grind
theorem agu(t:Int):∀x:List Int,V t (xn x)=W t x
 | []=>rfl
 | a::l=>by rw [DK,Bq];rfl
def bQ(x:ZX):ZX:=of (xn x.l)
theorem Ie(x:ZX):V t (bQ x).l=W t x.l:=by rw [bQ,Li,agu]
theorem Fq(t h:Int):∀x:List Int,∃R:Int,V (t+h) x=V t x+h*W t x+h*h*R
 | []=>⟨0,by simp [V,W]⟩
 | a::l=>by obtain⟨R,hR⟩:=Fq t h l;refine⟨W t l+(t+h)*R,?_⟩;simp only [V,W];rw [hR];grind
theorem Lj{t A:Int}{z:List Int}(hA:∀h,∃R:Int,V (t+h) z=V t z+h*A+h*h*R):W t z=A:=by
 have key:∀h:Int,h≠0->h∣W t z-A:=fun h hh=>by obtain⟨R,hR⟩:=hA h;obtain⟨S,hS⟩:=Fq t h z;refine⟨R-S,Int.eq_of_mul_eq_mul_left hh ?_⟩;grind
 have h1:=key (((W t z-A).natAbs:Int)+1) aa;have h2:=Int.natAbs_dvd_natAbs.2 h1
 rcases Nat.eq_zero_or_pos (W t z-A).natAbs with h3 | h3
 ·omega
 ·have:=Nat.le_of_dvd h3 h2;omega
theorem sI(x y:ZX):bQ (x*y)=bQ x*y+x*bQ y:=ext fun t=>by rw [Ie,lP,dN,dN,Ie,Ie];refine Lj fun h=>?_;obtain⟨R,hR⟩:=Fq t h x.l;obtain⟨S,hS⟩:=Fq t h y.l;refine⟨V t x.l*S+R*V t y.l+W t x.l*W t y.l+h*(W t x.l*S+R*W t y.l)+h*h*R*S,?_⟩;rw [dN,dN,hR,hS];grind
theorem ac3(c:Int):bQ (K c)=0:=ext fun t=>by
 rw [Ie,uf];refine Lj fun h=>⟨0,?_⟩
 rw [uK,uK];grind
theorem Vo(c:Int)(x:ZX):bQ (K c*x)=K c*bQ x:=by rw [sI,ac3];grind
theorem NZ:bQ (1:ZX)=0:=ac3 1
theorem N4(p:ZX):∀m:Nat,bQ (p^(m+1))=K ((m+1:Nat):Int)*p^m*bQ p
 | 0=>by rw [pow_succ',sI,dX,NZ];show _=(1:ZX)*1*bQ p;grind
 | m+1=>by
  rw [pow_succ',sI,N4 p m];have:K ((m+1+1:Nat):Int)=K ((m+1:Nat):Int)+1:=ext fun t=>by rw [lP,uK,uK,DH];omega
  rw [this,pow_succ'];grind
theorem mL(a:ZX):N (bQ a)<=N a-1:=Nat.le_trans (bS _) (by simp [xn,N])
theorem Fs(h:2<=N a):bQ a≠0:=by
 have h1:a.l.length=N a:=rfl;have hl:=cZ a.c aa;intro h0;have h2:nth (bQ a).l (N a-2)=nth a.l (N a-1)*((N a-1:Nat):Int):=by show nth (aK (xn a.l)) _=_;rw [i7,xn,bJ (by simp;omega)];simp only [List.getElem_map,List.getElem_range];rw [show N a-2+1=N a-1 by omega]
 rw [h0]at h2;have h3:nth (0:ZX).l (N a-2)=0:=ir (by show(0:ZX).l.length<=_;exact Nat.zero_le _);rw [h3]at h2;have h4:nth a.l (N a-1)=lead a.l:=by rw [lead,h1]
 rw [h4]at h2;exact Int.mul_ne_zero hl aa h2.symm
theorem od.Lk(hp:od p):¬dv p (bQ p):=fun h=>by have h1:=h.j2 (Fs hp.Z5);have h2:=mL p;have:=hp.Z5;omega
theorem xo(hp:od p)(ha:a≠0){m:Nat}(h:mu p a=m+1):bQ a≠0∧mu p (bQ a)=m:=by
 obtain⟨c,hc,b,hb,e,hn⟩:=Bp hp ha;rw [h]at e;have e2:K c*bQ a=(bQ b*p+K ((m+1:Nat):Int)*(b*bQ p))*p^m:=by rw [<-Vo,e,sI,N4,pow_succ'];grind
 have GV:¬dv p (bQ b*p+K ((m+1:Nat):Int)*(b*bQ p)):=fun h1=>by
  have h2:dv p (K ((m+1:Nat):Int)*(b*bQ p)):=by have h3:=h1.add ((dv.refl p).mul_left (-bQ b));rwa [show bQ b*p+K ((m+1:Nat):Int)*(b*bQ p) + -bQ b*p=K ((m+1:Nat):Int)*(b*bQ p)by grind]at h3
  have h4:=dv.CD aa h2
  rcases hp.ac1 h4 with h5 | h5
  ·exact hn h5
  ·exact hp.Lk h5
 have h6:bQ a≠0:=fun h0=>by
  rw [h0]at e2;have h7:(bQ b*p+K ((m+1:Nat):Int)*(b*bQ p))*p^m=0:=by rw [<-e2];grind
  rcases rL h7 with h8 | h8
  ·rw [h8]at GV;exact GV (dv.zero p)
  ·exact Fp hp.ne m h8
 exact⟨h6,xm hp h6 hc e2 GV⟩
theorem qC.xo{g a p:ZX}(h:qC g a (bQ a))(ha:a≠0)(hp:od p):ZX.mu p g=ZX.mu p a-1:=by
 rcases Nat.eq_zero_or_pos (ZX.mu p a)with h1 | h1
 ·have:=NX hp ha h.l;omega
 ·obtain⟨m,hm⟩:∃m,ZX.mu p a=m+1:=⟨ZX.mu p a-1,aa⟩
  obtain⟨h2,h3⟩:=ZX.xo hp ha hm;rw [h.mu ha h2 hp,h3,hm];omega
theorem Ft(hp:od p):mu p 1=0:=Q4 hp ar
theorem qC.am6{k:Int}(hc:c≠0)(hk:k≠0)(e:K c*a=q*b+K k*r)(h:qC g b r):qC g a b:=by obtain⟨d,hd,u,v,e2⟩:=h.uv;refine⟨dv.CD hc ?_,h.l,k*d,Int.mul_ne_zero hk hd,v*K c,K k*u-v*q,by rw [<-oO];grind⟩;rw [e];exact(h.l.mul_left q).add (h.r.mul_left _)
theorem qC.assoc{g':ZX}(h:qC g a b)(h':qC g' a b):dv g g'∧dv g' g:=⟨h'.least h.l h.r,h.least h'.l h'.r⟩
theorem qC.congr{a' b':ZX}(h:qC g a b)(h1:dv a a')(h2:dv a' a)(h3:dv b b')(h4:dv b' b):qC g a' b':=by obtain⟨g',Sb⟩:=jr _ a' b' (Nat.le_refl _);obtain⟨c,hc,u,v,e⟩:=Sb.uv;have h5:dv g g':=Sb.least (h.l.trans h1) (h.r.trans h3);have h6:dv g' g:=h.least (Sb.l.trans h2) (Sb.r.trans h4);obtain⟨d,hd,w,e2⟩:=h6;refine⟨h.l.trans h1,h.r.trans h3,c*d,Int.mul_ne_zero hc hd,w*u,w*v,by rw [<-oO];grind⟩
end ZX
theorem Ig{H t:Nat}:∀ {x:List Int},(∀c∈x,c.natAbs<=H)->(V (t:Int) x).natAbs<=H*(1+t)^x.length
 | [],_=>by simp [V]
 | a::l,h=>by
  have h1:=Ig (t:=t) (x:=l) fun c hc=>h c (by simp [hc]);have h2:=h a av;simp only [V];have h3:(a+(t:Int)*V t l).natAbs<=a.natAbs+t*(V (t:Int) l).natAbs:=by have:=Int.natAbs_add_le a ((t:Int)*V t l);rwa [Int.natAbs_mul,Int.natAbs_natCast]at this
  have h4:t*(V (t:Int) l).natAbs<=t*(H*(1+t)^l.length):=Nat.mul_le_mul_left _ h1;have h5:H*1<=H*(1+t)^l.length:=Nat.mul_le_mul_left _ (Nat.one_le_pow _ _ aa);rw [List.length_cons,Nat.pow_succ];have h6:H*((1+t)^l.length*(1+t))=H*(1+t)^l.length+t*(H*(1+t)^l.length):=aG;omega
def Q5(s:Int):List Int->List Int
 | []=>[]
 | _::l=>V s l::Q5 s l
theorem ac4(s t:Int):∀x:List Int,V t x=V s x+(t-s)*V t (Q5 s x)
 | []=>by simp [V,Q5]
 | a::l=>by
  have:=ac4 s t l;simp only [V,Q5];have h2:t*V t l=t*(V s l+(t-s)*V t (Q5 s l)):=by rw [<-this]
  grind
theorem Ih(s:Int):∀x:List Int,x ≠ [] -> ∃y,Q5 s x=y ++ [0]∧y.length=x.length-1
 | [],h=>absurd rfl h
 | [a],_=>⟨[],by simp [Q5,V],rfl⟩
 | a::b::l,_=>by obtain⟨y,h1,h2⟩:=Ih s (b::l) av;refine⟨V s (b::l)::y,by rw [Q5,h1];rfl,by simp at h2 |-;omega⟩
theorem Br{s:Nat}{M:Nat}:∀ {x:List Int},(V (s:Int) x).natAbs<=M->(∀c∈Q5 s x,c.natAbs<=M) -> ∀c∈x,c.natAbs<=M*(1+s)
 | [],_,_,c,hc=>by cases hc
 | a::l,h0,h,c,hc=>by
  have h1:(V (s:Int) l).natAbs<=M:=h _ (by simp [Q5]);have h2:∀c∈Q5 s l,c.natAbs<=M:=fun c hc=>h c (by simp [Q5,hc])
  rcases List.mem_cons.1 hc with rfl | hc
  ·simp only [V]at h0;have h3:c.natAbs<=(c+(s:Int)*V s l).natAbs+s*(V (s:Int) l).natAbs:=(by have h4:c=(c+(s:Int)*V s l)+(-((s:Int)*V s l)):=aa;have h5:=Int.natAbs_add_le (c+(s:Int)*V s l) (-((s:Int)*V s l));rw [<-h4,Int.natAbs_neg,Int.natAbs_mul,Int.natAbs_natCast]at h5;exact h5);have h4:s*(V (s:Int) l).natAbs<=s*M:=Nat.mul_le_mul_left _ h1;rw [Nat.mul_add,Nat.mul_one,Nat.mul_comm M s];omega
  ·exact Br h1 h2 c hc
theorem Fu(K:Nat):∀(P:List Nat) (A:Nat) (x:List Int),P.Nodup->(∀p∈P,p<=K)->x.length<=P.length->(∀p∈P,(V (p:Int) x).natAbs<=A) -> ∀c∈x,c.natAbs<=A*(2*(K+1))^P.length
 | [],A,x,_,_,hl,_,c,hc=>by have:x = []:=List.eq_nil_of_length_eq_zero (au hl);rw [this]at hc;cases hc
 | s::P,A,x,hd,hK,hl,hv,c,hc=>by
  have hx:x ≠ []:=fun h=>by rw [h]at hc;cases hc
  have h0:=hv s (List.mem_cons_self ..);obtain⟨hs,hd⟩:=List.nodup_cons.1 hd;obtain⟨y,h1,h2⟩:=Ih s x hx;have hy:∀t:Int,V t (Q5 s x)=V t y:=fun t=>by rw [h1,dK];simp [V]
  have h3:∀p∈P,(V (p:Int) y).natAbs<=2*A:=fun p hp=>by have h4:=ac4 s (p:Int) x;rw [hy]at h4;have h5:=hv p (List.mem_cons_of_mem _ hp);have km:p≠s:=fun h=>hs (h▸hp);have h6:(((p:Int)-s)*V (p:Int) y).natAbs<=2*A:=(by have:((p:Int)-s)*V (p:Int) y=V (p:Int) x-V (s:Int) x:=aa;rw [this];omega);rw [Int.natAbs_mul]at h6;exact Nat.le_trans (Nat.le_mul_of_pos_left _ aa) h6
  rw [List.length_cons]at hl |-;have h4:=Fu K P (2*A) y hd (fun p hp=>hK p (List.mem_cons_of_mem _ hp)) aa h3;have hP:1<=(2*(K+1))^P.length:=Nat.one_le_pow _ _ aa
  have h5:=Br (s:=s) (M:=2*A*(2*(K+1))^P.length) (x:=x) (by
   have:A*1<=2*A*(2*(K+1))^P.length:=Nat.mul_le_mul aa hP;omega) (fun d hd=>by
   rw [h1]at hd
   rcases List.mem_append.1 hd with hd | hd
   ·exact h4 d hd
   ·simp at hd;subst hd;simp) c hc
  refine Nat.le_trans h5 ?_;rw [Nat.pow_succ];have h6:A*((2*(K+1))^P.length*(2*(K+1)))=(2*A*(2*(K+1))^P.length)*(K+1):=aG;rw [h6];exact Nat.mul_le_mul_left _ (by have:=hK s (List.mem_cons_self ..);omega)
theorem Bs{α:Type}(p:α->Bool):∀l:List α,(l.filter p).length+(l.filter fun x => !p x).length=l.length
 | []=>rfl
 | a::l=>by have:=Bs p l;cases h:p a<;>simp [h]<;>omega
theorem Z6{x:List Int}(hx:aK x ≠ [])(hl:x.length<=n):∃P:List Nat,P.Nodup∧(∀p∈P,p<=2*n-1)∧P.length=n ∧ ∀p∈P,V (p:Int) x≠0:=by
 have h1:=Bs (fun p:Nat=>decide (V (p:Int) x=0)) (List.range (2*n))
 have h2:((List.range (2*n)).filter fun p:Nat=>decide (V (p:Int) x=0)).length<n:=Nat.not_le.1 fun h=>hx (by
  have h3:=Fu (2*n) ((List.range (2*n)).filter fun p:Nat=>decide (V (p:Int) x=0)) 0 x (List.nodup_range.filter _) (fun p hp=>by have:=List.mem_range.1 (List.mem_filter.1 hp).1;omega) aa (fun p hp=>by have:=of_decide_eq_true (List.mem_filter.1 hp).2;rw [this];decide)
  have h4:∀l:List Int,(∀c∈l,c.natAbs<=0*(2*(2*n+1))^((List.range (2*n)).filter fun p:Nat=>decide (V (p:Int) x=0)).length)->aK l = []:=fun l=>by
   induction l with
   | nil=>intro _;rfl
   | cons a l ih =>
    intro h;have h5:=h a (List.mem_cons_self ..);rw [Nat.zero_mul]at h5;rw [aK,ih fun c hc=>h c (List.mem_cons_of_mem _ hc),if_pos ⟨rfl,aa⟩]
  exact h4 x h3)
 rw [List.length_range]at h1;have h3:n<=((List.range (2*n)).filter fun p:Nat => !decide (V (p:Int) x=0)).length:=aa
 refine⟨((List.range (2*n)).filter fun p:Nat => !decide (V (p:Int) x=0)).take n,(List.take_sublist _ _).nodup (List.nodup_range.filter _),fun p hp=>?_,by rw [List.length_take];omega,fun p hp=>?_⟩
 ·have:=List.mem_range.1 (List.mem_filter.1 (List.mem_of_mem_take hp)).1;omega
 ·have:=(List.mem_filter.1 (List.mem_of_mem_take hp)).2;simpa using this
namespace ZX
theorem Vp{l:Nat}(ha:a≠0)(e:a=w*g)(hH:∀d∈a.l,d.natAbs<=2^h)(hN:N a<=n)(hn:n<=2^l):∀c∈g.l,c.natAbs<=2^(h+n*(2*l+3)):=by
 intro c hc;have hw:w≠0∧g≠0:=⟨fun h0=>ha (by rw [e,h0];grind),fun h0=>ha (by rw [e,h0];grind)⟩
 have hlen:g.l.length<=n:=by
  have h1:N a=N w+N g-1:=by rw [e,i9 hw.1 hw.2]
  have h2:=ax.1 hw.1;show N g<=n;omega
 have SS:1<=n:=by have:=ax.1 ha;omega
 obtain⟨P,p1,p2,p3,p4⟩:=Z6 (x:=a.l) (n:=n) (by rw [show aK a.l=a.l from a.c];have:=ax.1 ha;intro h0;have h3:N a=a.l.length:=rfl;rw [h3,h0]at this;simp at this) hN
 have hv:∀p∈P,(V (p:Int) g.l).natAbs<=2^h*(2^(l+1))^n:=fun p hp=>by
  have h1:V (p:Int) a.l=V (p:Int) w.l*V (p:Int) g.l:=by
   conv=>lhs;rw [e]
   rw [dN]
  have h2:=p4 p hp;have h3:(V (p:Int) g.l).natAbs<=(V (p:Int) a.l).natAbs:=by rw [h1,Int.natAbs_mul];have:V (p:Int) w.l≠0:=fun h0=>h2 (by rw [h1,h0,Int.zero_mul]);exact Nat.le_mul_of_pos_left _ aa
  refine Nat.le_trans h3 (Nat.le_trans (Ig hH) (Nat.mul_le_mul_left _ ?_));have h4:1+p<=2^(l+1):=by have:=p2 p hp;rw [Nat.pow_succ];omega
  exact Nat.le_trans (Nat.pow_le_pow_left h4 _) (Nat.pow_le_pow_right (Nat.two_pow_pos _) hN)
 have h5:=Fu (2*n-1) P _ g.l p1 p2 aa hv c hc;refine Nat.le_trans h5 ?_;rw [p3];have h7:2*(2*n-1+1)<=2^(l+2):=by rw [Nat.pow_add];omega
 have h8:(2*(2*n-1+1))^n<=(2^(l+2))^n:=Nat.pow_le_pow_left h7 _;refine Nat.le_trans (Nat.mul_le_mul_left _ h8) (Nat.le_of_eq ?_);rw [<-Nat.pow_mul,<-Nat.pow_mul,<-Nat.pow_add,<-Nat.pow_add];congr 1;grind
theorem Vq(ha:a≠0)(e:a=w*g)(hb:Bd 2 h n a.l)(hn:n+1<=2^h):Bd 2 (h+n*(2*h+5)+1) n g.l:=by
 have hw:w≠0∧g≠0:=⟨fun h0=>ha (by rw [e,h0];grind),fun h0=>ha (by rw [e,h0];grind)⟩
 refine⟨?_,fun c hc=>?_⟩
 ·have h1:N a=N w+N g-1:=by rw [e,i9 hw.1 hw.2]
  have h2:=ax.1 hw.1;have h3:N a<=n:=hb.len;show N g<=n;omega
 ·have h1:=Vp (h:=h) (n:=n) (l:=h) ha e (fun d hd=>by have h1:=iu (b:=2) ar d;have h2:=vg (b:=2) ar (hb.sz d hd);omega) hb.len aa c hc;refine dp ar (Nat.lt_of_le_of_lt h1 (Nat.pow_lt_pow_right ar ?_));have:n*(2*h+3)<=n*(2*h+5):=Nat.mul_le_mul_left _ aa;omega
end ZX
end Pm
namespace Go.Proofs.YtiobceocpabjdaaGreat
open Go Pm
open ZX hiding N W
variable {a b g:ZX}{c d:Int}
structure Nf(a:ZX):Prop where
 ne:a≠0
 g:bK a.l=1
 l:0<lead a.l
theorem te(h:a≠0):a.l ≠ []:=fun e=>by have:=ax.1 h;have h2:ZX.N a=a.l.length:=rfl;rw [h2,e]at this;simp at this
theorem agv(x:List Int):Cn (rJ x):=Cn.cut _
def nf(a:ZX):ZX:=⟨rJ a.l,agv _⟩
theorem j3:nf 0=0:=ZX.ext fun t=>rfl
theorem Ii(ha:a≠0):K (kA a.l)*nf a=a:=ZX.ext fun t=>by
 rw [dN,uK]
 conv=>rhs;rw [<-QV a.c (te ha)]
 rw [cM,Int.mul_comm];rfl
theorem po(ha:a≠0):kA a.l≠0:=Ld a.c (te ha)
theorem ac5(ha:a≠0):nf a≠0:=fun h=>ha (by rw [<-Ii ha,h];grind)
theorem iM(ha:a≠0):Nf (nf a):=⟨ac5 ha,ZU a.c (te ha),U8 a.c (te ha)⟩
theorem Nf.XO(h:Nf a):nf a=a:=by
 have h1:kA a.l=1:=by unfold kA;rw [if_neg (by have:=h.l;omega),h.g];rfl
 have:=Ii h.ne;rw [h1]at this;rw [<-this]
 conv=>lhs;rw [this]
 show _=(1:ZX)*_;grind
theorem Vr(hc:c≠0)(a:ZX):ZX.N (K c*a)=ZX.N a:=by
 by_cases ha:a=0
 ·rw [ha,show K c*(0:ZX)=0 by grind]
 ·rw [i9 (oc hc) ha,XN hc];have:=ax.1 ha;omega
theorem xp(a:ZX):ZX.N (nf a)=ZX.N a:=by
 by_cases ha:a=0
 ·rw [ha,j3]
 ·have:=Vr (po ha) (nf a);rw [Ii ha]at this;exact this.symm
theorem K_l(hc:c≠0)(a:ZX):(K c*a).l=a.l.map (· * c):=by refine Cn.ext (K c*a).c (ky a.c hc) fun t=>?_;rw [dN,uK,dM,Int.mul_comm]
theorem Vs(hc:c≠0)(ha:a≠0):lead (K c*a).l=c*lead a.l:=by
 have h:(K c*a).l=bN (K c).l a.l:=rfl;have hK:(K c).l = [c]:=by show aK [c] = [c];exact iJ hc []
 rw [h,w7 (K c).c a.c (by rw [hK];simp) (ax.1 ha),hK];rfl
theorem Nf.Fv(ha:Nf a)(hb:Nf b)(hc:c≠0)(hd:d≠0)(e:K c*a=K d*b):a=b:=by
 have h1:c.natAbs=d.natAbs:=by
  have h2:bK (K c*a).l=bK (K d*b).l:=by rw [e]
  rw [K_l hc,K_l hd,kz,kz,ha.g,hb.g]at h2;omega
 have h3:c*lead a.l=d*lead b.l:=by rw [<-Vs hc ha.ne,<-Vs hd hb.ne,e]
 have h4:c=d:=by
  rcases Int.natAbs_eq_natAbs_iff.1 h1 with h5 | h5
  ·exact h5
  ·exfalso;subst h5;have hl:=ha.l;have AV:=hb.l
   rcases Int.lt_or_gt_of_ne hd with h6 | h6
   ·have:=Int.mul_pos (show 0 < -d by omega) hl;have:=Int.mul_neg_of_neg_of_pos h6 AV;omega
   ·have:=Int.mul_neg_of_neg_of_pos (show -d<0 by omega) hl;have:=Int.mul_pos h6 AV;omega
 subst h4;exact ZX.cancel (oc hc) e
theorem Z7(ha:a≠0)(hc:c≠0)(hd:d≠0)(e:K c*a=K d*b):nf a=nf b:=by
 have hb:b≠0:=fun h=>by rw [h,show K d*(0:ZX)=0 by grind]at e;exact kB (oc hc) ha e
 refine Nf.Fv (iM ha) (iM hb) (c:=c*kA a.l) (d:=d*kA b.l) (Int.mul_ne_zero hc (po ha)) (Int.mul_ne_zero hd (po hb)) ?_;rw [<-oO,<-oO];have h1:=Ii ha;have h2:=Ii hb;grind
theorem Ij(a:ZX):nf (nf a)=nf a:=by
 by_cases ha:a=0
 ·rw [ha,j3,j3]
 ·exact(iM ha).XO
theorem DL(a:ZX):dv a (nf a)∧dv (nf a) a:=by
 by_cases ha:a=0
 ·rw [ha,j3];exact⟨dv.refl 0,dv.refl 0⟩
 ·have h:=Ii ha;exact⟨⟨kA a.l,po ha,1,by rw [h];grind⟩,⟨1,ar,K (kA a.l),by rw [h];show(1:ZX)*a=a;grind⟩⟩
theorem rN(h1:dv a b)(h2:dv b a):nf a=nf b:=by
 by_cases ha:a=0
 ·subst ha;rw [zi h1]
 ·obtain⟨c,hc,q,e⟩:=h2;have h3:=h1.j2 (fun hb=>ha (by subst hb;exact zi ⟨c,hc,q,e⟩));have h4:=dv.j2 ⟨c,hc,q,e⟩ ha;obtain⟨hq,hb⟩:=l6 hc ha e;have h5:=Vr hc a;rw [e,i9 hq hb]at h5;have:=ax.1 hq;have:=ax.1 hb;obtain⟨d,hd,rfl⟩:=j1 (x:=q) aa;exact Z7 ha hc hd e
theorem Nf.one:Nf 1:=⟨mJ,ar,ar⟩
theorem Nf.mul(ha:Nf a)(hb:Nf b):Nf (a*b):=by
 refine⟨kB ha.ne hb.ne,?_,?_⟩
 ·show bK (bN a.l b.l)=1;rw [U7 a.c b.c (te ha.ne) (te hb.ne),ha.g,hb.g]
 ·show 0<lead (bN a.l b.l);rw [w7 a.c b.c (ax.1 ha.ne) (ax.1 hb.ne)];exact Int.mul_pos ha.l hb.l
theorem N7{p:ZX}(hp:od p)(ha:a≠0):mu p (nf a)=mu p a:=by
 conv=>rhs;rw [<-Ii ha]
 rw [rM hp (oc (po ha)) (ac5 ha),Q4 hp (po ha)];omega
theorem Nf.rO(ha:Nf a)(hb:Nf b)(h:∀p,od p->mu p a=mu p b):a=b:=by rw [<-ha.XO,<-hb.XO];exact rN ((jE ha.ne hb.ne).2 fun p hp=>by have:=h p hp;omega) ((jE hb.ne ha.ne).2 fun p hp=>by have:=h p hp;omega)
theorem Nf.quo(ha:Nf a)(hb:Nf b)(h:dv b a):∃w,Nf w∧a=w*b:=by obtain⟨c,hc,q,e⟩:=h;obtain⟨hq,_⟩:=l6 hc ha.ne e;refine⟨nf q,iM hq,Nf.Fv ha ((iM hq).mul hb) hc (po hq) ?_⟩;have:=Ii hq;grind
theorem Nf.exact{a b w:ZX}(hb:Nf b)(e:a=w*b):exact a.l b.l=some w.l:=by subst e;exact Lh w.c b.c (ax.1 hb.ne)
theorem Nf.N1(ha:Nf a)(h:ZX.N a<=1):a=1:=by obtain⟨c,hc,rfl⟩:=j1 (x:=a) (by have:=ax.1 ha.ne;omega);exact Nf.Fv ha Nf.one (show (1:Int)≠0 by decide) hc (by show(1:ZX)*_=K c*1;grind)
noncomputable def gz(a b:ZX):ZX:=nf (Classical.choose (jr _ a b (Nat.le_refl _)))
theorem sJ(a b:ZX):∃g,qC g a b∧gz a b=nf g:=⟨_,Classical.choose_spec (jr _ a b (Nat.le_refl _)),rfl⟩
theorem N8(h:qC g a b):gz a b=nf g:=by obtain⟨g',h',e⟩:=sJ a b;rw [e];obtain⟨h1,h2⟩:=h'.assoc h;exact rN h1 h2
theorem qC.am7{g':ZX}(h:qC g a b)(h1:dv g g')(h2:dv g' g):qC g' a b:=by obtain⟨c,hc,u,v,e⟩:=h.uv;obtain⟨d,hd,w,e2⟩:=h1;exact⟨h2.trans h.l,h2.trans h.r,c*d,Int.mul_ne_zero hc hd,w*u,w*v,by rw [<-oO];grind⟩
theorem ek(a b:ZX):qC (gz a b) a b:=by obtain⟨g,h,e⟩:=sJ a b;rw [e];obtain⟨h1,h2⟩:=DL g;exact qC.am7 h h1 h2
theorem ac6(h:a≠0∨b≠0):gz a b≠0:=(ek a b).ne h
theorem yj(h:a≠0∨b≠0):Nf (gz a b):=by have h0:=ac6 h;obtain⟨g,h,e⟩:=sJ a b;rw [e]at h0 |-;exact iM (fun hg=>h0 (by rw [hg,j3]))
theorem pv(a b:ZX):gz a b=gz b a:=by have h:=ek a b;rw [N8 h.symm];obtain⟨g,_,e⟩:=sJ a b;rw [e,Ij]
theorem sK(a:ZX):gz a 0=nf a:=N8 (qC.zero a)
theorem Ik(a:ZX):gz 0 a=nf a:=by rw [pv,sK]
theorem Bt{a' b':ZX}(h1:dv a a')(h2:dv a' a)(h3:dv b b')(h4:dv b' b):gz a b=gz a' b':=by obtain⟨g,hg,e⟩:=sJ a b;rw [e,N8 (hg.congr h1 h2 h3 h4)]
theorem N9(a b:ZX):gz (nf a) b=gz a b:=Bt (DL a).2 (DL a).1 (dv.refl b) (dv.refl b)
theorem Ll(a b:ZX):gz a (nf b)=gz a b:=Bt (dv.refl a) (dv.refl a) (DL b).2 (DL b).1
theorem Fw{q r:ZX}{k:Int}(hc:c≠0)(hk:k≠0)(e:K c*a=q*b+K k*r):gz a b=gz b r:=by obtain⟨g,hg,e2⟩:=sJ b r;rw [e2,N8 (hg.am6 hc hk e)]
end Go.Proofs.YtiobceocpabjdaaGreat
namespace Go.Proofs.YtiobceocpabjdaaGreat
open Go Pm
open ZX hiding N W
variable {a b p:ZX}
open Classical in
noncomputable def qz(a b:ZX):ZX:=if h:∃w,Nf w∧a=w*b then h.choose else 0
theorem nI(ha:Nf a)(hb:Nf b)(h:dv b a):Nf (qz a b)∧a=qz a b*b:=by have h:=ha.quo hb h;unfold qz;rw [dif_pos h];exact h.choose_spec
theorem ac7{w:ZX}(hb:Nf b)(hw:Nf w)(e:a=w*b):qz a b=w:=by
 have ha:Nf a:=by rw [e];exact hw.mul hb
 obtain⟨h1,h2⟩:=nI ha hb ⟨1,ar,w,by rw [e];show(1:ZX)*_=_;grind⟩;refine ZX.cancel hb.ne ?_;have:qz a b*b=w*b:=by rw [<-h2,e]
 grind
theorem Vt(ha:Nf a)(hb:Nf b)(h:dv b a):exact a.l b.l=some (qz a b).l:=Nf.exact hb (nI ha hb h).2
theorem ac8(ha:Nf a)(hb:Nf b)(h:dv b a)(hp:od p):mu p (qz a b)=mu p a-mu p b:=by
 obtain⟨h1,h2⟩:=nI ha hb h
 have h3:mu p a=mu p (qz a b)+mu p b:=by
  conv=>lhs;rw [h2]
  exact rM hp h1.ne hb.ne
 omega
theorem Nf.self(ha:Nf a):qz a a=1:=ac7 ha Nf.one aG
theorem Nf.asU(ha:Nf a):qz a 1=a:=ac7 Nf.one ha aG
noncomputable def gd(a:ZX):ZX:=gz a (bQ a)
theorem Oa(ha:a≠0):Nf (gd a):=yj (.inl ha)
theorem yk(a:ZX):dv (gd a) a:=(ek a (bQ a)).l
theorem ac9(ha:a≠0)(hp:od p):mu p (gd a)=mu p a-1:=(ek a (bQ a)).xo ha hp
theorem asV(h:2<=ZX.N a):ZX.N (gd a)<ZX.N a:=by have h1:=(ek a (bQ a)).r.j2 (Fs h);have h2:=mL a;have:ZX.N (gd a)=ZX.N (gz a (bQ a)):=rfl;omega
theorem Vu:gd 1=1:=by unfold gd;rw [NZ,sK,Nf.one.XO]
noncomputable def gs(a:ZX):Nat->ZX
 | 0=>a
 | k+1=>gd (gs a k)
theorem mM{a:ZX}(ha:Nf a):∀k,Nf (gs a k)
 | 0=>ha
 | k+1=>Oa (mM ha k).ne
theorem DM(a:ZX):∀k,dv (gs a k) a
 | 0=>dv.refl a
 | k+1=>(yk _).trans (DM a k)
theorem Ob{a p:ZX}(ha:Nf a)(hp:od p):∀k,mu p (gs a k)=mu p a-k
 | 0=>rfl
 | k+1=>by show mu p (gd (gs a k))=_;rw [ac9 (mM ha k).ne hp,Ob ha hp k];omega
theorem Z8{a:ZX}:∀k,ZX.N (gs a k)<=1∨ZX.N (gs a k)+k<=ZX.N a
 | 0 => .inr (Nat.le_refl _)
 | k+1=>by
  rcases Z8 (a:=a) k with h | h
  ·left;show ZX.N (gz (gs a k) (bQ (gs a k)))<=1
   by_cases h0:gs a k=0
   ·rw [h0,show bQ (0:ZX)=0 from ZX.ext fun t=>rfl,sK,j3];decide
   ·exact Nat.le_trans ((ek _ _).l.j2 h0) h
  ·rcases Nat.lt_or_ge (ZX.N (gs a k)) 2 with h2 | h2
   ·left;show ZX.N (gz (gs a k) (bQ (gs a k)))<=1
    by_cases h0:gs a k=0
    ·rw [h0,show bQ (0:ZX)=0 from ZX.ext fun t=>rfl,sK,j3];decide
    ·exact Nat.le_trans ((ek _ _).l.j2 h0) aa
   ·right;have:=asV h2;show ZX.N (gd (gs a k))+(k+1)<=_;omega
open Classical in
noncomputable def nl(a:ZX):Nat:=if h:∃m,ZX.N (gs a m)<=1 ∧ ∀k,k<m->2<=ZX.N (gs a k)then h.choose else 0
theorem l7(a:ZX):ZX.N (gs a (nl a))<=1 ∧ ∀k,k<nl a->2<=ZX.N (gs a k):=by
 have h:∃m,ZX.N (gs a m)<=1 ∧ ∀k,k<m->2<=ZX.N (gs a k):=by
  have key:∀n,(∃m,m<=n∧ZX.N (gs a m)<=1 ∧ ∀k,k<m->2<=ZX.N (gs a k)) ∨ ∀k,k<=n->2<=ZX.N (gs a k):=by
   intro n
   induction n with
   | zero =>
    rcases Nat.lt_or_ge (ZX.N (gs a 0)) 2 with h | h
    ·exact .inl ⟨0,Nat.le_refl _,aa,fun k hk=>by omega⟩
    ·exact .inr fun k hk=>by rw [show k=0 by omega];exact h
   | succ n ih =>
    rcases ih with ⟨m,h1,h2⟩ | ih
    ·exact .inl ⟨m,aa,h2⟩
    ·rcases Nat.lt_or_ge (ZX.N (gs a (n+1))) 2 with h | h
     ·exact .inl ⟨n+1,Nat.le_refl _,aa,fun k hk=>ih k aa⟩
     ·refine .inr fun k hk=>?_
      rcases Nat.lt_or_ge k (n+1)with h3 | h3
      ·exact ih k aa
      ·rw [show k=n+1 by omega];exact h
  rcases key (ZX.N a)with ⟨m,_,h⟩ | h
  ·exact⟨m,h⟩
  ·have h1:=h (ZX.N a) (Nat.le_refl _);rcases Z8 (a:=a) (ZX.N a)with h2 | h2<;>omega
 unfold nl;rw [dif_pos h];exact h.choose_spec
theorem DN(a:ZX):nl a<=ZX.N a:=by
 rcases Nat.eq_zero_or_pos (nl a)with h | h
 ·omega
 ·have h1:=(l7 a).2 (nl a-1) aa;rcases Z8 (a:=a) (nl a-1)with h2 | h2<;>omega
theorem Il{a:ZX}(ha:Nf a):∀j,gs a (nl a+j)=1
 | 0=>(mM ha _).N1 (l7 a).1
 | j+1=>by show gd (gs a (nl a+j))=1;rw [Il ha j,Vu]
noncomputable def wz(a:ZX)(k:Nat):ZX:=qz (gs a k) (gs a (k+1))
theorem fX(ha:Nf a)(k:Nat):Nf (wz a k)∧gs a k=wz a k*gs a (k+1):=nI (mM ha k) (mM ha (k+1)) (yk _)
theorem Im(ha:Nf a)(hp:od p)(k:Nat):mu p (wz a k)=if k<mu p a then 1 else 0:=by rw [wz,ac8 (mM ha k) (mM ha (k+1)) (yk _) hp,Ob ha hp,Ob ha hp];split<;>omega
theorem am8(ha:Nf a)(j:Nat):wz a (nl a+j)=1:=by rw [wz,Il ha j,Nat.add_assoc,Il ha (j+1),Nf.one.self]
theorem Io(ha:Nf a)(k:Nat):dv (wz a (k+1)) (wz a k):=(jE (fX ha _).1.ne (fX ha _).1.ne).2 fun p hp=>by rw [Im ha hp,Im ha hp];split<;>split<;>omega
noncomputable def lp(a:ZX)(k:Nat):ZX:=qz (wz a k) (wz a (k+1))
theorem vQ(ha:Nf a)(k:Nat):Nf (lp a k)∧wz a k=lp a k*wz a (k+1):=nI (fX ha k).1 (fX ha (k+1)).1 (Io ha k)
theorem am9(ha:Nf a)(hp:od p)(k:Nat):mu p (lp a k)=if mu p a=k+1 then 1 else 0:=by rw [lp,ac8 (fX ha k).1 (fX ha (k+1)).1 (Io ha k) hp,Im ha hp,Im ha hp];split<;>split<;>split<;>omega
theorem Z9(ha:Nf a){k:Nat}(h:k+1=nl a):lp a k=wz a k:=by rw [lp,h,show nl a=nl a+0 from rfl,am8 ha 0,(fX ha k).1.asU]
noncomputable def fl(a:ZX):List ZX:=(List.range (nl a)).map (lp a)
theorem Ip(ha:Nf a)(hp:od p):mu p a<=nl a:=by have h:=Ob ha hp (nl a);have h1:=Il ha 0;rw [Nat.add_zero]at h1;rw [h1,Ft hp]at h;omega
noncomputable def pf(a:ZX)(c:Nat->Bool):Nat->ZX
 | 0=>1
 | k+1=>if c k then pf a c k*lp a k else pf a c k
theorem vR{a:ZX}(ha:Nf a)(c:Nat->Bool):∀k,Nf (pf a c k)
 | 0=>Nf.one
 | k+1=>by
  rw [pf]
  split
  ·exact(vR ha c k).mul (vQ ha k).1
  ·exact vR ha c k
theorem Oc{a p:ZX}(ha:Nf a)(hp:od p)(c:Nat->Bool):∀k,mu p (pf a c k)=if 1<=mu p a∧mu p a<=k∧c (mu p a-1)=true then 1 else 0
 | 0=>by rw [pf,Ft hp,if_neg aa]
 | k+1=>by
  have ih:=Oc ha hp c k;have hf:=am9 ha hp k;rw [pf]
  by_cases hc:c k=true
  ·rw [if_pos hc,rM hp (vR ha c k).ne (vQ ha k).1.ne,ih,hf]
   by_cases h1:mu p a=k+1
   ·rw [if_pos h1,h1,Nat.add_sub_cancel,if_neg aa,if_pos ⟨aa,Nat.le_refl _,hc⟩]
   ·rw [if_neg h1]
    by_cases h2:1<=mu p a∧mu p a<=k∧c (mu p a-1)=true
    ·rw [if_pos h2,if_pos ⟨h2.1,aa,h2.2.2⟩]
    ·rw [if_neg h2,if_neg (fun h3=>h2 ⟨h3.1,aa,h3.2.2⟩)]
  ·rw [if_neg hc,ih]
   by_cases h1:mu p a=k+1
   ·rw [h1,Nat.add_sub_cancel,if_neg aa,if_neg (fun h3=>hc h3.2.2)]
   ·by_cases h2:1<=mu p a∧mu p a<=k∧c (mu p a-1)=true
    ·rw [if_pos h2,if_pos ⟨h2.1,aa,h2.2.2⟩]
    ·rw [if_neg h2,if_neg (fun h3=>h2 ⟨h3.1,aa,h3.2.2⟩)]
noncomputable def oz(a:ZX):ZX:=pf a (fun k=>k%2==0) (nl a)
noncomputable def sz'(a:ZX):ZX:=wz a 0
theorem Vv(ha:Nf a):Nf (oz a):=vR ha _ _
theorem Vw(ha:Nf a):Nf (sz' a):=(fX ha 0).1
theorem adb(ha:Nf a)(hp:od p):mu p (oz a)=mu p a%2:=by
 have h:=Ip ha hp;rw [oz,Oc ha hp]
 by_cases h1:1<=mu p a∧mu p a<=nl a∧((mu p a-1)%2==0)=true
 ·rw [if_pos h1];have:=h1.2.2;simp only [beq_iff_eq]at this;omega
 ·rw [if_neg h1];simp only [beq_iff_eq]at h1;omega
theorem Vx(ha:Nf a)(hp:od p):mu p (sz' a)=min (mu p a) 1:=by rw [sz',Im ha hp];split<;>omega
theorem agw(ha:Nf a):pf a (fun _=>true) (nl a)=sz' a:=Nf.rO (vR ha _ _) (Vw ha) fun p hp=>by
 have h:=Ip ha hp;rw [Oc ha hp,Vx ha hp]
 by_cases h1:1<=mu p a
 ·rw [if_pos ⟨h1,h,rfl⟩];omega
 ·rw [if_neg (fun h2=>h1 h2.1)];omega
theorem Iq(h:ZX.N a<=1):nl a=0:=by
 rcases Nat.eq_zero_or_pos (nl a)with h1 | h1
 ·exact h1
 ·have:=(l7 a).2 0 h1;have:ZX.N (gs a 0)=ZX.N a:=rfl;omega
def qb(h n:Nat):Nat:=h+n*(2*h+5)+1
theorem ana(ha:Nf a)(hb:Nf b)(hd:dv b a){h n:Nat}(hx:Bd 2 h n a.l)(hn:n+1<=2^h):Bd 2 (qb h n) n b.l:=by obtain⟨w,_,e⟩:=ha.quo hb hd;exact Vq ha.ne e hx hn
theorem Vy(ha:Nf a)(hb:Nf b)(h:dv b a):dv (qz a b) a:=by obtain⟨_,h2⟩:=nI ha hb h;exact⟨1,ar,b,by rw [ZX.DJ b,<-h2];show(1:ZX)*_=_;grind⟩
theorem zj(ha:Nf a)(k:Nat):dv (wz a k) a:=(Vy (mM ha k) (mM ha (k+1)) (yk _)).trans (DM a k)
theorem Fx(ha:Nf a)(k:Nat):dv (lp a k) a:=(Vy (fX ha k).1 (fX ha (k+1)).1 (Io ha k)).trans (zj ha k)
theorem zo(ha:Nf a)(c:Nat->Bool)(k:Nat):dv (pf a c k) a:=(jE (vR ha c k).ne ha.ne).2 fun p hp=>by rw [Oc ha hp];split<;>omega
end Go.Proofs.YtiobceocpabjdaaGreat
namespace Go.Proofs.YtiobceocpabjdaaGreat
open Go Pm List
variable {h n s s' C:Nat}{x y:List Int}{a c:ZX}{α:Type}{l:List ZX}
theorem Bu(v:Int):sz LL v<=sz 2 v:=dp fV (Nat.lt_of_lt_of_le (iu (b:=2) ar v) (Nat.pow_le_pow_left ar _))
theorem Gw(hx:Bd 2 h n x):Bd LL h n x:=⟨hx.len,fun c hc=>Nat.le_trans (Bu c) (hx.sz c hc)⟩
instance:Inhabited ZX:=⟨0⟩
abbrev BZ(h n:Nat)(a:ZX):Prop:=Bd 2 h n a.l
theorem BZ.pb(b:BZ h n a)(hh:h<1099511627775)(hn:n<1099511627775):PB a.l:=PB.of (Gw b) hh hn
theorem BZ.Ba{h n:Nat}{a:ZX}(b:BZ h n a)(hh:h<1099511627775)(hn:n<1099511627775):qp (a.l.map qA):=(b.pb hh hn).Ba
theorem yl(a:ZX):mi (a.l.map qA)=a.l:=by rw [ZS];exact a.c
theorem BZ.mono{h h' n n':Nat}{a:ZX}(b:BZ h n a)(hh:h<=h')(hn:n<=n'):BZ h' n' a:=Bd.mono b hh hn
theorem BZ.nf(b:BZ h n a):BZ h n (nf a):=Vj b
theorem BZ.N(b:BZ h n a):ZX.N a<=n:=Bd.len b
theorem Vz(b:BZ h n a)(hh:h<1099511627774)(hn:n<1099511627774)(k:Nat)(hk:k+1<a.l.length):aj 164 [ae (k:Int), .rd [Po a.l]] (I (nth a.l (k+1)*((k+1:Nat):Int))):=by have hlen:=b.len;have hz:=(Gw b).nth (k+1);have o1:=AU ((k+1:Nat):Int) aa aa;have XK:Sz ((k+1:Nat):Int):=Nat.lt_of_le_of_lt (dp (k:=2) fV (by rw [Int.natAbs_natCast];show k+1<4294967296^2;omega)) ar;have m1:=vC (x:=nth a.l (k+1)) (y:=((k+1:Nat):Int)) (by show Pm.sz LL _<_;omega) XK;have e:((k:Int)+1).toNat=k+1:=aa;rw [Int.natCast_add,Int.natCast_one]at o1 m1;apply bL [(0,ae (k:Int)),(1, .rd [Po a.l])] Tryz.func164;generalize a.l=x at *;apply gr [0,1,3];simp (disch:=omega) [gw,e];apply cT o1;apply jK m1;exact eK [3]
theorem pw(b:BZ h n a)(hh:h<1099511627774)(hn:n<1099511627774):aj 85 [Po a.l] (Po (ZX.bQ a).l):=by
 have hlen:=b.len;have hc:=fun k hk=>Vz b hh hn k hk;have hE:=rD 164 rfl [.rd [Po a.l]] rfl (a.l.length-1) aa (fun k=>nth a.l (k+1)*((k+1:Nat):Int)) (fun k hk=>hc k aa);have e0:aK ((List.range (a.l.length-1)).map fun k=>nth a.l (k+1)*((k+1:Nat):Int))=(ZX.bQ a).l:=rfl;rw [e0]at hE;generalize (ZX.bQ a).l=d,a.l=x at *;have e1:(if (1:Int)<(x.length:Int)then(x.length:Int)-1 else 0)=((x.length-1:Nat):Int):=by split<;>omega
 apply bL [(0,Po x)] Tryz.func85;apply mz [1];simp (disch:=omega) [gw,e1];apply cT hE;exact eK [2]
theorem Lm{g:α->List PV}{l:List α}{c:Int}{d:List Int}(h1:aj 137 [aw g l] (.cW [I c,Po d])):aj 140 [aw g l] (Po d):=by apply bL [(0,aw g l)] Tryz.func140;apply fk [0] h1 [4];exact dS [2]
theorem ml(b:BZ h n a)(hh:h<1099511627774)(hn:n<1099511627774):aj 140 [Po a.l] (Po (nf a).l):=by have h1:=tK (a.l.map qA) (b.Ba aa aa) (s:=h) (n:=n) (by rw [bY];exact Gw b) hh hn;rw [yl,<-iA]at h1;exact Lm h1
theorem Od{h':Nat}(b:BZ h n a)(b':BZ h' n c)(ha:Nf a)(hc:Nf c)(hd:ZX.dv c a)(hB:h+n*(h'+n+1)+h'+n+n+10<1099511627774):aj 141 [Po a.l,Po c.l] (Po (qz a c).l):=by have h0:¬c.l = []:=te hc.ne;have h1:=QU (a.l.map qA) (c.l.map qA) (b.Ba aa aa) (b'.Ba aa aa) (s:=h) (s':=h') (N:=n) (by rw [bY];exact Gw b) (by rw [bY];exact Gw b') hB;rw [yl,yl,if_neg h0,Vt ha hc hd,<-iA,<-iA,exR]at h1;generalize (qz a c).l=d,a.l=x,c.l=y at *;apply bL [(0,Po x),(1,Po y)] Tryz.func141;apply fk [0,1] h1 [5];exact dS [4]
def rs(a c:ZX):ZX:=⟨H3 a.l c.l,agn _ _⟩
theorem Bv(cx:Cn x)(hx:x ≠ []):(jL x).map (· * (bK x:Int))=x:=by
 have hg:=cO cx hx;have h1:=ze (g:=(bK x:Int)) (fun c hc=>iB x c hc)
 have h2:Cn (x.map (pk (bK x))):=by
  have h3:x.map (pk (bK x))=aK (x.map (pk (bK x))):=by refine(List.map_inj_right (f:=fun v:Int=>v*(bK x:Int)) (fun u v e=>Int.eq_of_mul_eq_mul_right aa e)).1 ?_;rw [h1];refine Cn.ext cx (ky (Cn.cut _) aa) fun t=>?_;rw [dM,c8,<-dM,h1]
  exact h3.symm
 rw [jL,show aK (x.map (pk (bK x)))=_ from h2,h1]
theorem aaa(hc:c≠0):∃(m k:Int) (q:ZX),m≠0∧k≠0∧ZX.K m*a=q*c+ZX.K k*rs a c:=by
 have h0:=ZX.ax.1 hc;obtain⟨c1,c2⟩:=AK (b:=c.l) a.c;have hm:lead c.l^jn a.l c.l≠0:=Int.pow_ne_zero (cZ c.c h0);have Ir:=U3 (lead c.l) (jn a.l c.l);have hr:=U4 (b:=c.l) a.c;have hV:=fun t=>Ud t a.l c.l;have hg:sg (lead c.l) (jn a.l c.l)≠0:=fun h=>by rw [h]at Ir;simp at Ir
 generalize sg (lead c.l) (jn a.l c.l)=g,lead c.l^jn a.l c.l=m at *;have hl:(rs a c).l=jL (aY (xV a.l c.l).2 g):=hr;generalize rs a c=R,(xV a.l c.l).1=q,(xV a.l c.l).2=r at *;have El:Cn (aY r g):=Cn.aY _ _
 by_cases hz:aY r g = []
 ·refine⟨m,1,⟨q,c1⟩,hm,ar,ZX.ext fun t=>?_⟩;rw [hz]at hl;have h1:V t R.l=0:=by rw [hl];rfl
  have h2:V t r=0:=by
   have h3:V t (aY r g)=0:=(by rw [hz];rfl);rw [cM]at h3
   rcases Int.mul_eq_zero.1 h3 with h4 | h4
   ·exact h4
   ·exact absurd h4 hg
  rw [ZX.dN,ZX.uK,ZX.lP,ZX.dN,ZX.dN,ZX.uK,h1];have:=hV t;rw [h2]at this;show m*V t a.l=V t q*V t c.l+1*0;omega
 ·have hgp:=cO El hz;refine⟨m,g*(bK (aY r g):Int),⟨q,c1⟩,hm,Int.mul_ne_zero hg aa,ZX.ext fun t=>?_⟩;have h1:=Bv El hz;have h2:V t (aY r g)=V t R.l*(bK (aY r g):Int):=by rw [hl,<-dM,h1]
  rw [cM]at h2;rw [ZX.dN,ZX.uK,ZX.lP,ZX.dN,ZX.dN,ZX.uK];have:=hV t;show m*V t a.l=V t q*V t c.l+g*(bK (aY r g):Int)*V t R.l;rw [<-this];have h3:V t r=g*(V t r*g):=by have:g*(V t r*g)=V t r*(g*g):=aG;rw [this,Ir];omega
  rw [h3,h2];grind
theorem anb(hc:c≠0):ZX.N (rs a c)<ZX.N c:=ZT (ZX.ax.1 hc)
theorem jc(hx:Bd 2 s n x):Bd 2 s n (jL x):=Bd.cut ⟨by simpa using hx.len,fun c hc=>by
 simp only [mem_map]at hc;obtain⟨v,hv,rfl⟩:=hc;refine Nat.le_trans (cY ar ?_) (hx.sz v hv);unfold pk
 split
 ·exact Int.natAbs_ediv_le_natAbs _ _
 ·simp⟩
theorem anc(ha:BZ s n a)(hb:BZ s' n c)(hc:c≠0):BZ (s+(ZX.N a+1-ZX.N c)*(s'+n+1)) n (rs a c):=by
 have h0:=ZX.ax.1 hc;have hl:=anb (a:=a) hc;have hk:jn a.l c.l<=n:=by have h1:=ha.N;have h2:jn a.l c.l=ZX.N a+1-ZX.N c:=rfl;omega
 obtain⟨_,h2⟩:=Uc (B:=2) ar hb (jn a.l c.l) s [] a.l hk ⟨av,fun c hc=>by cases hc⟩ (ha.mono (Nat.le_refl _) aa)
 have h3:Bd 2 (s+jn a.l c.l*(s'+n+1)) (n+n) (H3 a.l c.l):=by
  unfold H3
  split
  ·exact jc (Bd.gL h2)
  ·exact jc h2
 have h4:=hb.N;have h5:ZX.N (rs a c)=(H3 a.l c.l).length:=rfl;exact⟨by show(H3 a.l c.l).length<=n;omega,fun d hd=>h3.sz d hd⟩
theorem VA{d:Nat}(h:1<=d):d+2<=4^d:=by
 obtain⟨k,rfl⟩:∃k,d=k+1:=⟨d-1,aa⟩
 clear h
 induction k with
 | zero=>decide
 | succ k ih=>rw [Nat.pow_succ];omega
def ym(C n s:Nat)(a c:ZX):Prop:=if ZX.N c<ZX.N a then(s+n+1)*4^ZX.N a<=C else(s+n+1)*2*4^ZX.N c<=C
theorem ym.le(h:ym C n s a c):s+n+1<=C:=by
 unfold ym at h
 split at h
 ·exact Nat.le_trans (Nat.le_mul_of_pos_right _ (Nat.pow_pos ar)) h
 ·refine Nat.le_trans ?_ h;rw [Nat.mul_assoc];exact Nat.le_mul_of_pos_right _ (Nat.mul_pos ar (Nat.pow_pos ar))
theorem ym.step{r:ZX}(h:ym C n s a c)(hr:ZX.N r<ZX.N c):ym C n (s+(ZX.N a+1-ZX.N c)*(s+n+1)) c r:=by
 unfold ym at h |-;rw [if_pos hr];generalize hT:s+n+1=T at *;have e:s+(ZX.N a+1-ZX.N c)*T+n+1=(ZX.N a+1-ZX.N c+1)*T:=by rw [Nat.add_mul,Nat.one_mul];omega
 rw [e]
 split at h
 ·rename_i h1;obtain⟨d,hd⟩:∃d,ZX.N a=ZX.N c+d:=⟨ZX.N a-ZX.N c,aa⟩
  have h2:=VA (d:=d) aa;rw [hd,Nat.pow_add]at h;have h3:(ZX.N a+1-ZX.N c+1)*T<=4^d*T:=Nat.mul_le_mul_right _ aa;refine Nat.le_trans (Nat.mul_le_mul_right _ h3) ?_;have:4^d*T*4^ZX.N c=T*(4^ZX.N c*4^d):=aG;omega
 ·rename_i h1;refine Nat.le_trans (Nat.mul_le_mul_right _ (Nat.mul_le_mul_right T (show ZX.N a+1-ZX.N c+1<=2 by omega))) ?_;rw [Nat.mul_comm 2 T];exact h
theorem VB(b:BZ s n a)(b':BZ s n c)(hP:ym C n s (nf a) (nf c))(hB:(n+1)*C<=99000000000):aj 142 [Po a.l,Po c.l] (Po (gz a c).l):=by
 have hC:C<=99000000000:=Nat.le_trans (Nat.le_mul_of_pos_left C aa) hB;rw [Nat.succ_mul]at hB;have hs:=hP.le;have p1:=ml b aa aa;have p2:=ml b' aa aa;have b1:=b.nf;have b2:=b'.nf;have hg:gz (nf a) (nf c)=gz a c:=by rw [N9,Ll]
 rw [<-hg];generalize n7:nf a=x0 at *;generalize KL:nf c=y0 at *;generalize hG:gz x0 y0=G at *;apply bL [(0,Po a.l),(1,Po c.l)] Tryz.func142;generalize a.l=al,c.l=cl at *;apply aR [0,1];apply kh p1 p2;apply bM [0,1];apply (iR)
 refine W.aO (fun k σ=>∃(x y:ZX) (s:Nat),aQ σ [(0,Po x.l),(1,Po y.l)] fun rows clk=>BZ s n x∧BZ s n y∧ym C n s x y∧gz x y=G∧k=ZX.N y) (ZX.N y0) ?_ ?_
 ·exact⟨_, .refl,x0,y0,s,_,_,rfl,b1,b2,hP,hG,rfl⟩
 rintro k _ ⟨x,y,s,rows,clk,rfl,bx,sL,hp,hgz,rfl⟩;have hs:=hp.le;have Zg:=bx.len;have hly:=sL.len
 apply cS [0,1,13]<;>intro h
 ·have hy:y≠0:=ZX.ax.2 (by show 0<y.l.length;simp at h;omega);obtain⟨m,k,q,hm,hk,e⟩:=aaa (a:=x) hy;have hR:=H5 (x.l.map qA) (y.l.map qA) (bx.Ba aa aa) (sL.Ba aa aa) (s:=s) (s':=s) (N:=n) (by rw [bY];exact Gw bx) (by rw [bY];exact Gw sL) (by have:n*(s+n+1)<=n*C:=Nat.mul_le_mul_left n hs;omega);rw [yl,yl,if_neg (te hy),<-iA,<-iA,show H3 x.l y.l=(rs x y).l from rfl]at hR;have br:=anc bx sL hy;have hN:=anb (a:=x) hy;have Gq:=hp.step hN;have nW:=Fw hm hk e;apply (qj);apply gT hR [1,5];refine bB fun K hK=>?_;refine hK _ ⟨ZX.N (rs x y),_,ak _ [0,1],hN,y,rs x y,_,_,_,rfl,sL.mono aa (Nat.le_refl _),br,Gq,by rw [<-nW,hgz],rfl⟩
 ·have hy:y=0:=by refine Classical.byContradiction fun h0=>?_;have h1:=ZX.ax.1 h0;have h2:ZX.N y=y.l.length:=rfl;simp at h;rw [h2,h]at h1;simp at h1
  subst hy;rw [sK]at hgz;have p3:=ml bx aa aa;rw [hgz]at p3;apply (ey);exact yN p3 [4]
theorem Oe(b:BZ s n a)(b':BZ s n c)(hP:ym C n s (nf a) (nf c))(hn:n<=20)(hC:C<=4500000000):aj 142 [Po a.l,Po c.l] (Po (gz a c).l):=
 VB b b' hP (Nat.le_trans (Nat.mul_le_mul (show n+1<=21 by omega) hC) ar)
def zp(a:ZX):List PV:=[Po a.l]
@[simp] theorem asW:zp a = [Po a.l]:=rfl
@[simp] theorem ajs:bC 1 (emap zp l)=True:=cE fun _=>rfl
@[simp] theorem asX:emap zp l ++ [[aw ie a.l]]=emap zp (l ++ [a]):=by simp [emap]
@[simp] theorem agy{v e:Nat}:da (some ⟨v,e,n,emap zp l⟩)=True:=ck fun _=>rfl
theorem BZ.bQ(b:BZ h n a)(hn:n<=31):BZ (h+5) n (ZX.bQ a):=Bd.cut ⟨by have:=b.len;simp [ZX.xn];omega,fun c hc=>by simp only [ZX.xn,mem_map,mem_range]at hc;obtain⟨i,hi,rfl⟩:=hc;have:=b.len;exact ct ar (b.nth _) (dp (k:=5) ar (by rw [Int.natAbs_natCast];show i+1<32;omega))⟩
theorem aab(b:BZ h n a)(hn:n<1099511627776):aj 83 [Po a.l] (ae ((ZX.N a:Int)-1)):=j0 a.l (by have:=b.len;omega)
structure p9(s n:Nat)(a:ZX):Prop where
 bz:BZ s n a
 hn:n<=20
 hs:n+1<=2^s
 hC:(qb s n+n+6)*4^n<=4500000000
theorem p9.qc(h:p9 s n a):qb s n+n+6<=4500000000:=Nat.le_trans (Nat.le_mul_of_pos_right _ (Nat.pow_pos ar)) h.hC
theorem p9.dv(h:p9 s n a)(ha:Nf a)(hc:Nf c)(hd:ZX.dv c a):BZ (qb s n) n c:=ana ha hc hd h.bz h.hs
theorem p9.nfz(h:p9 s n a):p9 s n (nf a):=⟨h.bz.nf,h.hn,h.hs,h.hC⟩
theorem p9.gdz(h:p9 s n a)(ha:Nf a)(hc:Nf c)(hd:ZX.dv c a):aj 142 [Po c.l,Po (ZX.bQ c).l] (Po (gd c).l)∧aj 85 [Po c.l] (Po (ZX.bQ c).l)∧aj 141 [Po c.l,Po (gd c).l] (Po (qz c (gd c)).l):=by have b:=h.dv ha hc hd;have b2:=b.bQ (by have:=h.hn;omega);have hq:=h.qc;have hn:=h.hn;have bg:=h.dv ha (Oa hc.ne) ((yk c).trans hd);refine⟨Oe (s:=qb s n+5) (b.mono aa (Nat.le_refl _)) b2 ?_ h.hn (C:=4500000000) (Nat.le_refl _),pw b aa aa,Od b bg hc (Oa hc.ne) (yk c) (by have:n*(qb s n+n+1)<=20*4500000000:=Nat.mul_le_mul hn aa;omega)⟩;have hN:=ZX.mL c;have h1:ZX.N c<=n:=b.N;have h2:=ZX.ax.1 hc.ne;unfold ym;rw [xp,xp,if_pos aa];refine Nat.le_trans (Nat.mul_le_mul (show qb s n+5+n+1<=qb s n+n+6 by omega) (Nat.pow_le_pow_right ar h1)) h.hC
theorem Ln(h:p9 s n a):aj 276 [Po a.l] (aw zp ((List.range (nl (nf a))).map (wz (nf a)))):=by
 have p1:=ml h.bz (by have:=h.qc;unfold qb at this;omega) (by have:=h.hn;omega);have hA:=h.nfz;have hNf:2<=ZX.N (nf a)->Nf (nf a):=fun h2=>iM fun h0=>by rw [h0,j3]at h2;revert h2;decide
 have hle:=DN (nf a);have hbn:=hA.bz.N;have hn:=h.hn;generalize hAe:nf a=A at *;apply bL [(0,Po a.l)] Tryz.func276;apply aR [0];apply fB [0,3];apply gT p1 [3,4];refine W.nil 3 3 24 1 av ar fun K hK=>?_;refine W.lw [3,4] hK ?_;clear hK K;simp;apply W.block
 refine W.aO (fun k σ=>∃(i ver:Nat),aQ σ [(3, .own 3 ver 0 i),(4,Po (gs A i).l)] fun rows clk=>rows 3=some ⟨ver,24,1,emap zp ((List.range i).map (wz A))⟩∧i+k=nl A) (nl A) ?_ ?_
 ·exact⟨_, .refl,0,_,_,_,rfl,by simp [emap],aa⟩
 rintro k _ ⟨i,ver,rows,clk,rfl,hr,qu⟩;have tZ:(emap zp ((List.range i).map (wz A))).length=i:=by simp [emap]
 apply W.seq;have agz:aj 83 [Po (gs A i).l] (ae ((ZX.N (gs A i):Int)-1)):=j0 (gs A i).l (by have h1:ZX.N (gs A i)=(gs A i).l.length:=rfl;rcases Z8 (a:=A) i with h2 | h2<;>omega);apply gT agz [3,4,10]
 refine W.cond ⟨_,rfl,fun h3=>?_,fun h3=>?_⟩
 ·have h2:2<=ZX.N (gs A i):=by simp at h3;omega
  have hi:i<nl A:=by
   rcases Nat.lt_or_ge i (nl A)with h4 | h4
   ·exact h4
   ·have h5:=(l7 A).1;rw [show nl A=i by omega]at h5;omega
  have S3:2<=ZX.N A:=by have:=(l7 A).2 0 aa;exact this
  have nA:=hNf S3;have ng:=mM nA i;obtain⟨t1,t2,t3⟩:=hA.gdz nA ng (DM A i);have hw:qz (gs A i) (gd (gs A i))=wz A i:=rfl;have hs:gd (gs A i)=gs A (i+1):=rfl;rw [hw,hs]at t3;rw [hs]at t1;generalize hg:(gs A i).l=g at *;generalize nW:(gs A (i+1)).l=g2 at *;apply (qj);apply kh t2 t1;apply bM [3,4,5];apply lE t3;apply AA hr tZ [3,5];refine bB fun K hK=>?_;subst nW;refine hK _ ⟨k-1,_,ak _ [3,4],aa,i+1,_,_,_,rfl,?_,aa⟩;rw [range_succ,map_append];simp [emap,zp]
 ·have h2:ZX.N (gs A i)<=1:=by simp at h3;omega
  have hi:i=nl A:=by
   rcases Nat.lt_or_ge i (nl A)with h4 | h4
   ·have:=(l7 A).2 i h4;omega
   ·omega
  rw [hi]at hr;have wH:List.take (nl A) (map (wz A) (List.range (nl A)))=map (wz A) (List.range (nl A)):=take_of_length_le av;apply (iq);rw [hi];apply AA hr wH [2];apply W.ret;simp [go,hr,wH]
theorem Is(hA:p9 s n a)(na:Nf a)(k:Nat):BZ (qb s n) n (wz a k):=hA.dv na (fX na k).1 (zj na k)
theorem fg(f:Nat->ZX){m i:Nat}(h:i<m):nth ((List.range m).map f) i=f i:=by rw [bJ (au h)];simp
theorem ane(h:0<nl (nf a)):Nf (nf a):=by have h1:=(l7 (nf a)).2 0 h;exact iM fun h0=>by rw [h0,j3]at h1;have h2:ZX.N (gs 0 0)=0:=ar;omega
theorem Iu(h:p9 s n a):aj 273 [Po a.l] (aw zp (fl (nf a))):=by
 have hL:=Ln h;have hA:=h.nfz;have hNf:=ane (a:=a);have hle:=DN (nf a);have hbn:=hA.bz.N;have hn:=h.hn;have VC:=h.qc;generalize hAe:nf a=A at *;have yT:((List.range (nl A)).map (wz A)).length=nl A:=av;have hq:∀i,i+1<nl A->aj 141 [Po (nth ((List.range (nl A)).map (wz A)) i).l,Po (nth ((List.range (nl A)).map (wz A)) (i+1)).l] (Po (lp A i).l):=fun i hi=>by have nA:=hNf aa;rw [fg _ aa,fg _ hi];exact Od (Is hA nA i) (Is hA nA (i+1)) (fX nA i).1 (fX nA (i+1)).1 (Io nA i) (by have:n*(qb s n+n+1)<=20*4500000000:=Nat.mul_le_mul hn aa;omega)
 have mN:∀i,i+1=nl A->nth ((List.range (nl A)).map (wz A)) i=lp A i:=fun i hi=>by rw [fg _ aa,Z9 (hNf aa) hi]
 generalize hM:(List.range (nl A)).map (wz A)=M at *;obtain⟨m,hm⟩:∃m,m=nl A:=⟨_,rfl⟩
 have Jn:(fl A)=(List.range m).map (lp A):=by rw [hm];rfl
 rw [Jn];rw [<-hm]at yT hq mN hle;apply bL [(0,Po a.l)] Tryz.func273;apply fk [0] hL [3];apply fj yT [3,4];apply W.seq;apply fj yT [3,4,12,13,14];apply W.block
 refine W.aO (fun k σ=>∃(i ver:Nat) (els:List (List PV)) (rows:Pm.Rows) (clk:Nat),σ=⟨fa [(3,aw zp M),(4, .own 11 ver 0 m),(12,aw zp M),(13,ae m),(14,ae i)],rows,clk⟩ ∧
  rows 11=some ⟨ver,24,1,els⟩∧els.length=m∧(∀e∈els,e.length=1)∧els.take i=emap zp ((List.range i).map (lp A))∧i+k=m) m ?_ ?_
 ·exact⟨_, .refl,0,_,replicate m [.nil],_,_,rfl,av,av,av,by simp [emap],aa⟩
 rintro k _ ⟨i,ver,els,rows,clk,rfl,hr,mg,GJ,qw,qu⟩;apply fB [3,4,12,13,14,15]
 refine W.cond ⟨_,rfl,fun h3=>?_,fun h3=>?_⟩
 ·have hi:i<m:=by simp at h3;omega
  clear h3;have hiM:i<M.length:=aa;have tZ:i<els.length:=aa;have hE:∀e:List (List PV),e.length=m->(∀x∈e,x.length=1)->tI e i 1=True:=fun e h1 h2=>by simp only [eq_iff_iff,iff_true];exact⟨e[i]'(by omega),getElem?_eq_getElem aa,by rw [h2 _ (getElem_mem _)];omega⟩
  have hS:∀(e:List (List PV)) (v:PV),e.length=m->(∀x∈e,x.length=1)->fQ e i 0 [v]=e.set i [v]:=fun e v h1 h2=>by have h4:=h2 _ (getElem_mem (show i<e.length by omega));rw [fQ,getElem?_eq_getElem aa];simp [drop_of_length_le,h4]
  have h1E:=hE els mg GJ;have h1S:=hS els (Po (nth M i).l) mg GJ;have SO:(els.set i [Po (nth M i).l]).length=m:=au mg
  have Bw:∀e∈els.set i [Po (nth M i).l],e.length=1:=fun e he=>by
   rcases mem_or_eq_of_mem_set he with h4 | h4
   ·exact GJ e h4
   ·rw [h4];rfl
  have anf:(els.set i [Po (nth M i).l]).take i=emap zp ((List.range i).map (lp A)):=by rw [gD (Nat.le_refl i)];exact qw
  have h2E:=hE _ SO Bw;have h2S:=hS (els.set i [Po (nth M i).l]) (Po (lp A i).l) SO Bw;have fin:∀(e:List (List PV)),e.length=m->(∀x∈e,x.length=1)->e.take i=emap zp ((List.range i).map (lp A))->(e.set i [Po (lp A i).l]).take (i+1)=emap zp ((List.range (i+1)).map (lp A)):=fun e h1 h2 h4=>by rw [lf h4 aa,range_succ,map_append];simp [emap,zp]
  apply W.skip
  refine W.dh (fun σ=>∃(els:List (List PV)) (rows:Pm.Rows) (clk:Nat),σ=⟨fa [(3,aw zp M),(4, .own 11 ver 0 m),(12,aw zp M),(13,ae m),(14,ae i)],rows,clk⟩ ∧
   rows 11=some ⟨ver,24,1,els⟩∧els.length=m∧(∀e∈els,e.length=1)∧els.take (i+1)=emap zp ((List.range (i+1)).map (lp A))) ?_ ?_
  ·apply mz [3,4,5,6,12,13,14];simp (disch:=omega) [gw,hr,h1E,h1S];apply c9 [3,4,5,6,12,13,14];apply fj yT [3,4,5,6,12,13,14,27]
   refine W.cond ⟨_,rfl,fun h3=>?_,fun h3=>?_⟩
   ·have R7:i+1<m:=(by simp at h3;omega);have asY:i+1<M.length:=aa;have e1:((i:Int)+1).toNat=i+1:=aa;refine W.wI fun K hK=>?_;simp (disch:=omega) [gw,e1,asY];apply cT (hq i R7);simp (disch:=omega) [gw,h2E,h2S]
    exact hK _ ⟨_,ak _ [3,4,12,13,14],_,_,_,rfl,av,au mg,fun e he=>by
     rcases mem_or_eq_of_mem_set he with h4 | h4
     ·exact Bw e h4
     ·rw [h4];rfl,fin _ SO Bw anf⟩
   ·have R7:i+1=m:=(by simp at h3;omega);apply W.skip;refine⟨_,ak _ [3,4,12,13,14],_,_,_,rfl,av,SO,Bw,?_⟩;have h4:=fin els mg GJ qw;rw [<-mN i R7]at h4;rw [h4]
  rintro _ ⟨els,rows,clk,rfl,hr,mg,GJ,qw⟩;refine bB fun K hK=>?_;refine hK _ ⟨k-1,_,ak _ [3,4,12,13,14],aa,i+1,_,_,_,_,rfl,hr,mg,GJ,qw,aa⟩
 ·have hi:i=m:=by simp at h3;omega
  subst hi;rw [bG mg]at qw;subst qw;have wH:List.take i (map (lp A) (List.range i))=map (lp A) (List.range i):=take_of_length_le av;apply (iq);apply AA hr wH [2];apply W.ret;simp [go,hr,wH]
noncomputable def Bz(L:List ZX):ZX:=L.foldl gz 0
theorem aad(L:List ZX)(hL:L.length<1099511627776)(h2:∀i,i<L.length->aj 142 [Po (Bz (L.take i)).l,Po (nth L i).l] (Po (Bz (L.take (i+1))).l)):aj 194 [aw zp L] (Po (Bz L).l):=by
 apply bL [(0,aw zp L)] Tryz.func194;apply eQ [0] [0,3];refine W.Kw 3 (Po (Bz (L.take 0)).l) av rfl fun K hK=>?_;refine W.lw [0,3] hK ?_;clear hK K;simp;apply dU [3,6,7,8]
 refine W.aO (fun k σ=>∃(i:Nat),aQ σ [(3,Po (Bz (L.take i)).l),(6,aw zp L),(7,ae L.length),(8,ae i)] fun rows clk=>i+k=L.length) L.length ?_ ?_
 ·exact⟨_, .refl,0,_,_,by simp;exact⟨rfl,rfl⟩,aa⟩
 rintro k _ ⟨i,rows,clk,rfl,qu⟩
 apply ef [3,6,7,8,9]<;>intro h
 ·have hi:i<L.length:=by simp at h;omega
  have ht:=h2 i hi;generalize nW:Bz (L.take (i+1))=g2,Bz (L.take i)=g at *;apply lW [3,5,6,7,8];refine u9 ht fun K hK=>?_;refine W.lw [3,6,7,8] hK ?_;clear hK K;simp;refine bB fun K hK=>?_;subst nW;refine hK _ ⟨k-1,_,ak _ [3,6,7,8],aa,i+1,_,_,rfl,aa⟩
 ·have hi:i=L.length:=by simp at h;omega
  subst hi;rw [take_length];exact rb [2]
theorem VD:aj 11 [.sl [[ae 1]]] (Po (1:ZX).l):=by have:=Zj [1] ar ar;exact this
noncomputable def sq(a:ZX):ZX:=if ZX.N a<=1 then nf a else sz' (nf a)
theorem Iv{g:α->List PV}{l:List α}(h:p9 s n a)(p1:aj 140 [aw g l] (Po (nf a).l)):aj 70 [aw g l] (Po (sq a).l):=by
 have VC:=h.qc;have hn:=h.hn;have hA:=h.nfz;have agz:=aab hA.bz aa;have hsq:sq a=if ZX.N (nf a)<=1 then nf a else sz' (nf a):=by rw [xp];rfl
 have nA:2<=ZX.N (nf a)->Nf (nf a):=fun h2=>iM fun h0=>by rw [h0,j3]at h2;revert h2;decide
 rw [hsq];generalize nf a=A at *;apply bL [(0,aw g l)] Tryz.func70;apply fk [0] p1 [0];apply W.seq;apply gT agz [0,7]
 refine W.cond ⟨_,rfl,fun h3=>?_,fun h3=>?_⟩
 ·have h2:ZX.N A<=1:=by simp at h3;omega
  rw [if_pos h2];exact dS [2]
 ·have h2:2<=ZX.N A:=by simp at h3;omega
  obtain⟨t1,t2,t3⟩:=hA.gdz (nA h2) (nA h2) (ZX.dv.refl A);rw [if_neg aa,show sz' A=qz A (gd A)from rfl];generalize (gd A).l=g1 at *;apply W.skip;apply lE t2;apply eO t1 t3;exact eK [2]
theorem ug(h:p9 s n a):aj 70 [Po a.l] (Po (sq a).l):=by have VC:=h.qc;have hn:=h.hn;exact Iv h (ml h.bz (by unfold qb at VC;omega) aa)
theorem aae(h:p9 s n a)(h0:a≠0):aj 265 [Po a.l] (Po (oz (nf a)).l):=by
 have VC:=h.qc;have hn:=h.hn;have ni:s<1099511627774:=by unfold qb at VC;omega
 have p1:=ml h.bz ni aa;have hA:=h.nfz;have nA:=iM h0;have hF:=Iu hA;rw [Ij]at hF;have hle:=DN (nf a);have hNA:ZX.N (nf a)<=n:=hA.bz.N;have km:(nf a).l.length≠0:=fun h1=>by have h2:=ZX.ax.1 nA.ne;have h3:ZX.N (nf a)=(nf a).l.length:=rfl;omega
 generalize nf a=A at *;have hmul:∀i,aj 15 [Po (pf A (fun k=>k%2==0) i).l,Po (lp A i).l] (Po (pf A (fun k=>k%2==0) i*lp A i).l):=fun i=>by have b1:=hA.dv nA (vR nA (fun k=>k%2==0) i) (zo nA _ i);have b2:=hA.dv nA (vQ nA i).1 (Fx nA i);exact xf (Gw b1) (Gw b2) aa
 obtain⟨m,hm⟩:∃m,m=nl A:=⟨_,rfl⟩
 have hoz:oz A=pf A (fun k=>k%2==0) m:=by rw [hm];rfl
 have Jn:fl A=(List.range m).map (lp A):=by rw [hm];rfl
 rw [hoz];rw [Jn]at hF;have yT:((List.range m).map (lp A)).length=m:=av;have uh:∀i,i<m->nth ((List.range m).map (lp A)) i=lp A i:=fun i hi=>fg _ hi;generalize (List.range m).map (lp A)=L at *;have h1:=VD;rw [show(1:ZX)=pf A (fun k=>k%2==0) 0 from rfl]at h1;generalize hg:pf A (fun k=>k%2==0) 0=g0 at *;apply bL [(0,Po a.l)] Tryz.func265;apply fk [0] p1 [0];apply W.seq;apply aR [0,10]
 refine W.cond ⟨_,rfl,fun h3=>?_,fun h3=>?_⟩
 ·simp at h3;exact absurd (by rw [h3];rfl) km
 clear h3;apply rf h1 [0,3];apply W.seq;apply lE hF;apply u6 yT [3,14,15,16];subst hg;apply W.block
 refine W.aO (fun k σ=>∃(i:Nat),aQ σ [(3,Po (pf A (fun k=>k%2==0) i).l),(14,aw zp L),(15,ae m),(16,ae i)] fun rows clk=>i+k=m) m ?_ ?_
 ·exact⟨_, .refl,0,_,_,rfl,aa⟩
 rintro k _ ⟨i,rows,clk,rfl,qu⟩
 apply ef [3,14,15,16,17]<;>intro h
 ·have hi:i<m:=by simp at h;omega
  have hiL:i<L.length:=aa;have ht:=hmul i;have qe:=uh i hi;have hpf:pf A (fun k=>k%2==0) (i+1)=if i%2==0 then pf A (fun k=>k%2==0) i*lp A i else pf A (fun k=>k%2==0) i:=rfl
  generalize nW:pf A (fun k=>k%2==0) (i+1)=g2,pf A (fun k=>k%2==0) i=g at *;have e2:((i:Int)%2==0)=(i%2==0):=by rw [Bool.eq_iff_iff,beq_iff_eq,beq_iff_eq];omega
  apply W.skip
  refine W.dh (fun σ=>∃(rows:Pm.Rows) (clk:Nat),σ=⟨fa [(3,Po g2.l),(14,aw zp L),(15,ae m),(16,ae i)],rows,clk⟩) ?_ ?_
  ·apply fj qe [3,4,5,14,15,16];apply W.sr;simp (disch:=omega) [gw,e2]
   apply u7 [3,5,14,15,16,23]<;>intro h
   ·rw [h,if_pos rfl]at hpf;rw [hpf];refine u9 ht fun K hK=>?_;exact hK _ ⟨_,ak _ [3,14,15,16],_,_,rfl⟩
   ·rw [h,if_neg ar]at hpf;rw [hpf];apply W.skip;exact⟨_,ak _ [3,14,15,16],_,_,rfl⟩
  rintro _ ⟨rows,clk,rfl⟩;subst nW;refine bB fun K hK=>?_;refine hK _ ⟨k-1,_,ak _ [3,14,15,16],aa,i+1,_,_,rfl,aa⟩
 ·have hi:i=m:=by simp at h;omega
  subst hi;exact rb [2]
@[simp] theorem Q6:([]:List Int).length=0:=rfl
theorem BZ.yy(b:BZ h n a)(hh:h<=YY)(hn:n<=1099511627775):Bd 2 YY 1099511627775 a.l:=Bd.mono b hh hn
theorem kE(b:BZ h n a)(h1:1<=h)(hh:h<=YY)(hn:n<1099511627776):aj 78 [PI a.l] (PI (nf a).l):=by have hP:=Bo a.l b a.c h1 hh hn;have e:rJ a.l=(nf a).l:=rfl;rw [e]at hP;generalize kA a.l=c,(nf a).l=d at *;generalize a.l=x at *;apply bL [(0,PI x)] Tryz.func78;apply fk [0] hP [4];exact dS [2]
theorem pB(b:BZ h n a)(hh:h<=YY)(hn:n<=1000):aj 160 [PI a.l] (PI (ZX.bQ a).l):=by
 have hlen:=b.len;have e0:(ZX.bQ a).l=aK ((List.range (a.l.length-1)).map fun k=>nth a.l (k+1)*((k:Int)+1)):=rfl;rw [e0];have hz:=fun k=>b.nth k;generalize a.l=x at *;generalize hm:x.length-1=m at *;refine jx (E:=env) (fun id=>if id=5 then 2 else 0) [(0,PI x)] Tryz.func160 rfl bX bX (show 1<=23 by decide) av ?_;apply eQ [0] [0,3];refine W.nil 3 3 31 4 av ar fun K hK=>?_;refine W.lw [0,3] hK ?_;clear hK K;simp;apply dU [0,3,4]
 refine W.aO (fun k σ=>∃(i ver:Nat),aQ σ [(0,PI x),(3, .own 3 ver 0 i),(4,ae ((i:Int)+1))] fun rows clk =>
  rows 3=some ⟨ver,31,4,emap ri ((List.range i).map fun k=>nth x (k+1)*((k:Int)+1))⟩∧i+k=m) m ?_ ?_
 ·exact⟨_, .refl,0,_,_,_,rfl,by simp [emap],aa⟩
 rintro k _ ⟨i,ver,rows,clk,rfl,hr,qu⟩;have tZ:(emap ri ((List.range i).map fun k=>nth x (k+1)*((k:Int)+1))).length=i:=by simp [emap]
 apply cS [0,3,4,8]<;>intro h
 ·have hi:i+1<x.length:=by simp at h;omega
  have o1:=HG ((i:Int)+1) aa;have hzi:=hz (i+1);have m1:=Dw (nth x (i+1)) ((i:Int)+1) (Nat.le_trans hzi hh) (Nat.le_trans (dp (k:=10) ar (by show((i:Int)+1).natAbs<1024;omega)) ar);have e1:((i:Int)+1).toNat=i+1:=aa;have er:(List.range (i+1)).map (fun k=>nth x (k+1)*((k:Int)+1))=(List.range i).map (fun k=>nth x (k+1)*((k:Int)+1)) ++ [nth x (i+1)*((i:Int)+1)]:=by rw [range_succ,map_append];simp
  have as1:((List.range i).map fun k=>nth x (k+1)*((k:Int)+1)).length=i:=av;generalize (List.range i).map (fun k=>nth x (k+1)*((k:Int)+1))=acc at *;generalize hq:nth x (i+1)*((i:Int)+1)=q at *;apply (ft);refine W.Dd fun K hK=>?_;rw [if_pos rfl,fc];simp (disch:=omega) [gw,e1];apply cT o1;apply jK m1;apply fN hr as1;refine W.lw [0,3,4] hK ?_;clear hK K;simp;refine bB fun K hK=>?_;refine hK _ ⟨k-1,_,ak _ [0,3,4],aa,i+1,_,_,_,by rw [Int.natCast_add];rfl,by rw [er];simp,aa⟩
 ·have hi:i=m:=by simp at h;omega
  subst hi;have eB:((List.range i).map fun k=>nth x (k+1)*((k:Int)+1)).length=i:=av;generalize (List.range i).map (fun k=>nth x (k+1)*((k:Int)+1))=acc at *;have ez:=bG eB;apply (iq);simp (disch:=omega) [gw,hr,ez];refine aU (oJ acc aa) ?_;exact eK [2]
theorem rP:aj 97 [.sl [[ae 1]]] (PI (1:ZX).l):=vI [1] ar ar
theorem Q7{k:Nat}(hk:k<1099511627776)(h2:∀i,i<k->aj 199 [PI (a^i).l,PI a.l] (PI (a^(i+1)).l)):aj 200 [PI a.l,ae k] (PI (a^k).l):=by
 have h1:=rP;rw [show(1:ZX)=a^0 from rfl]at h1;apply bL [(0,PI a.l),(1,ae k)] Tryz.func200;apply aR [0,1];generalize hg:a^0=g0 at *;apply gT h1 [0,1,5];apply W.seq;apply aR [0,1,5,6];subst hg;apply W.block
 refine W.aO (fun j σ=>∃(i:Nat),aQ σ [(0,PI a.l),(1,ae k),(5,PI (a^i).l),(6,ae i)] fun rows clk=>i+j=k) k ?_ ?_
 ·exact⟨_, .refl,0,_,_,rfl,aa⟩
 rintro j _ ⟨i,rows,clk,rfl,qu⟩
 apply cS [0,1,5,6,11]<;>intro h
 ·have hi:i<k:=by simp at h;omega
  have ht:=h2 i hi;generalize nW:a^(i+1)=g2,a^i=g at *;apply (ft);refine u9 ht fun K hK=>?_;refine W.lw [0,1,5,6] hK ?_;clear hK K;simp;refine bB fun K hK=>?_;subst nW;refine hK _ ⟨j-1,_,ak _ [0,1,5,6],aa,i+1,_,_,rfl,aa⟩
 ·have hi:i=k:=by simp at h;omega
  subst hi;exact rb [4]
def wM(l:Int):Int:=if l<0 then -1 else 1
theorem aaf(l:Int):wM l*l=l.natAbs:=by unfold wM;split<;>omega
def Of(y x:List Int):List Int:=wJ y (lead y).natAbs (wM (lead y)*lead x) (x.length-y.length) x
def Og(y x:List Int)(i:Nat):Int:=nth x i*((lead y).natAbs:Int)-if x.length-y.length<=i then wM (lead y)*lead x*nth y (i-(x.length-y.length))else 0
theorem VE(h:y.length<=x.length):aK ((List.range x.length).map (Og y x))=Of y x:=by
 refine Cn.ext (Cn.cut _) (Cn.fC _ _) fun t=>?_;unfold Of;rw [c8,wJ,iT,cM,dq,nD];obtain⟨k,hk⟩:∃k,x.length=k+y.length:=⟨x.length-y.length,aa⟩
 have e1:(List.range x.length).map (Og y x)=(List.range x.length).map fun i=>nth x i*((lead y).natAbs:Int)+(-(if x.length-y.length<=i then wM (lead y)*lead x*nth y (i-(x.length-y.length))else 0)):=map_congr_left fun i _=>by unfold Og;omega
 rw [e1,sF,gO,jB (Nat.le_refl _)];generalize wM (lead y)*lead x=T at *
 have e2:((List.range x.length).map fun i => -(if x.length-y.length<=i then T*nth y (i-(x.length-y.length))else 0))=replicate k 0++y.map fun v=>v*(-T):=by
  have hk2:x.length-y.length=k:=aa;rw [hk2,hk,range_add,map_append,map_map]
  congr 1
  ·rw [eq_replicate_iff];refine⟨av,fun v hv=>?_⟩;simp only [mem_map,mem_range]at hv;obtain⟨i,hi,rfl⟩:=hv;rw [if_neg aa];rfl
  ·have h2:=oE (x:=y) (n:=y.length) (Nat.le_refl _);rw [Nat.sub_self,replicate_zero,append_nil]at h2
   conv=>rhs;rw [<-h2]
   rw [map_map];refine map_congr_left fun i _=>?_;simp only [Function.comp_apply];rw [if_pos aa,Nat.add_sub_cancel_left];grind
 rw [e2,dK,pW];have h3:=gO (t:=t) (-T) id y;simp only [id_eq,map_id_fun]at h3;rw [h3,length_replicate,show x.length-y.length=k by omega];grind
theorem sM(hy:0<y.length)(h:y.length<=x.length):(Of y x).length<x.length:=by
 have h1:=y6 (b:=y) (r:=x) (i:=x.length-y.length) hy aa;rw [show vk y x (x.length-y.length)=lead x from by rw [vk,if_pos aa]]at h1;have e:Of y x=aY (wJ y (lead y) (lead x) (x.length-y.length) x) (wM (lead y)):=Cn.ext (Cn.fC _ _) (Cn.aY _ _) fun t=>by unfold Of;rw [cM,wJ,wJ,iT,iT,cM,cM,dq,dq,nD,nD,<-aaf];grind
 rw [e];have:=o8 (wJ y (lead y) (lead x) (x.length-y.length) x) (wM (lead y));omega
theorem VF(t:Int)(y x:List Int):((lead y).natAbs:Int)*V t x=t^(x.length-y.length)*(wM (lead y)*lead x)*V t y+V t (Of y x):=by unfold Of;rw [wJ,iT,cM,dq,nD];grind
def rq(y:List Int):Nat->List Int->List Int
 | 0,x=>x
 | n+1,x=>if x.length<y.length then x else rq y n (Of y x)
theorem agA(h:x.length<y.length):∀n,rq y n x=x
 | 0=>rfl
 | n+1=>by rw [rq,if_pos h]
theorem Oh{y:List Int}(cy:Cn y)(hy:0<y.length):∀(n:Nat) (x:List Int),Cn x->x.length<n->Cn (rq y n x)∧(rq y n x).length<y.length ∧ ∃(m:Int) (q:List Int),m≠0 ∧ ∀t,m*V t x=V t q*V t y+V t (rq y n x)
 | 0,x,_,h=>by omega
 | n+1,x,cx,h=>by
  rw [rq]
  split
  ·rename_i h1;exact⟨cx,h1,1,[],ar,fun t=>by simp [V]⟩
  ·rename_i h1;have hl:=sM hy (show y.length<=x.length by omega);obtain⟨h2,h3,m,q,hm,h4⟩:=Oh cy hy n (Of y x) (Cn.fC _ _) aa;have uI:=cZ cy hy;refine⟨h2,h3,m*(lead y).natAbs,iw q (aY (qo (x.length-y.length) (wM (lead y)*lead x)) m),Int.mul_ne_zero hm aa,fun t=>?_⟩;have h5:=VF t y x;have h6:=h4 t;rw [rp,cM,nD];have:m*((lead y).natAbs:Int)*V t x=m*(((lead y).natAbs:Int)*V t x):=aG;rw [this,h5];grind
theorem Lo{N:Nat}(sL:Bd 2 s' N y)(bx:Bd 2 s N x)(hy:0<y.length)(h:y.length<=x.length):Bd 2 (s+(s'+N+1)) N (Of y x):=by
 have hl:=sM hy h;have Zg:=bx.len;have ZO:sz 2 ((lead y).natAbs:Int)<=s':=Nat.le_trans (cY ar (by rw [Int.natAbs_natCast];exact Nat.le_refl _)) (fU sL)
 have hlr:sz 2 (wM (lead y)*lead x)<=s:=Nat.le_trans (cY ar (by
  rw [Int.natAbs_mul];have:(wM (lead y)).natAbs=1:=by unfold wM;split<;>rfl
  rw [this,Nat.one_mul];exact Nat.le_refl _)) (fU bx)
 have b1:Bd 2 (s+s'+N) (max N (x.length-y.length+1+N)) (aY x ((lead y).natAbs:Int)):=(bx.aY ar ZO).mono aa aa;have b2:Bd 2 (s+s'+N) (max N (x.length-y.length+1+N)) (bN (qo (x.length-y.length) (wM (lead y)*lead x)) y):=((Bd.qo hlr (x.length-y.length)).bN ar sL).mono aa aa;exact⟨aa,fun c hc=>by have h6:=(Bd.fC ar b1 b2).sz c hc;omega⟩
theorem adf{s' N:Nat}{y:List Int}(sL:Bd 2 s' N y)(hy:0<y.length):∀(n j s:Nat) (x:List Int),Bd 2 s N x->x.length+1<=y.length+j->Bd 2 (s+j*(s'+N+1)) N (rq y n x)
 | 0,j,s,x,bx,_=>bx.mono av (Nat.le_refl _)
 | n+1,j,s,x,bx,hj=>by
  rw [rq]
  split
  ·exact bx.mono av (Nat.le_refl _)
  ·rename_i h1;obtain⟨i,rfl⟩:∃i,j=i+1:=⟨j-1,aa⟩
   have hl:=sM hy (show y.length<=x.length by omega);have:=adf sL hy n i (s+(s'+N+1)) (Of y x) (Lo sL bx hy aa) aa;rw [Nat.add_mul,Nat.one_mul];exact this.mono aa (Nat.le_refl _)
theorem agB(n:Nat):RI (n:Int) = .ag [aw ay (aI DD n), .bool false]:=by simp [show ¬((n:Int)<0)by omega]
set_option maxHeartbeats 2000000 in
theorem DO{N:Nat}{x0:List Int}(bx0:Bd 2 s N x0)(sL:Bd 2 s' N y)(cx0:Cn x0)(cy:Cn y)(KL:0<y.length)(hN:N<=1000)(hB:s+(x0.length+1-y.length+1)*(s'+N+1)<YY) :
  aj 162 [PI x0,PI y] (PI (rq y (x0.length+1) x0)):=by
 have hlN:=bx0.len;have hNy:=sL.len;obtain⟨R,hR⟩:∃R,R=rq y (x0.length+1) x0:=⟨_,rfl⟩
 rw [<-hR];obtain⟨M,hM⟩:∃M,M=s+(x0.length+1-y.length+1)*(s'+N+1):=⟨_,rfl⟩
 rw [<-hM]at hB;have hB:M<137438953472:=hB;have ZO:sz 2 ((lead y).natAbs:Int)<=s':=Nat.le_trans (cY ar (by rw [Int.natAbs_natCast];exact Nat.le_refl _)) (fU sL);have e2:((y.length:Int)-1).toNat=y.length-1:=aa;have Js:nth y (y.length-1)=lead y:=rfl;refine jx (E:=env) (fun id=>if id=16 then 2 else 0) [(0,PI x0),(1,PI y)] Tryz.func162 rfl bX bX (show 2<=78 by decide) av ?_;apply mz [0,1];simp (disch:=omega) [gw,e2,Js];apply c9 [0,1,5];apply eQ [0,1,5,6] [0,1,5,6];apply (iR)
 refine W.aO (fun n σ=>∃(x:List Int) (j u:Nat),aQ σ [(0,PI x),(1,PI y),(5, .ptr 5 0 0 0),(6, .ptr 6 1 0 0)] fun rows clk =>
  rows 5=some ⟨0,29,2,[[aw ay (aI DD (lead y).natAbs), .bool (decide (lead y<0))]]⟩∧rows 6=some ⟨1,29,2,[[aw ay (aI DD (lead y).natAbs), .bool false]]⟩ ∧
  Cn x∧x.length<n∧rq y n x=R∧Bd 2 u N x∧x.length+1<=y.length+j∧u+(j+1)*(s'+N+1)<=M) (x0.length+1) ?_ ?_
 ·exact⟨_, .refl,x0,x0.length+1-y.length,s,_,_,rfl,av,av,cx0,aa,hR.symm,bx0,aa,aa⟩
 rintro n _ ⟨x,j,u,rows,clk,rfl,dj,gu,cx,ZD,hxR,bx,hj,hu⟩;have Zg:=bx.len
 apply cS [0,1,5,6,25]<;>intro h
 ·have h:y.length<=x.length:=by simp at h;omega
  obtain⟨n,rfl⟩:∃m,n=m+1:=⟨n-1,aa⟩
  rw [rq,if_neg aa]at hxR;have AV:=sM KL h;obtain⟨k,hk⟩:∃k,k=x.length-y.length:=⟨_,rfl⟩
  have hkI:(x.length:Int)-(y.length:Int)=k:=aa;have e1:((x.length:Int)-1).toNat=x.length-1:=aa;have hxl:nth x (x.length-1)=lead x:=rfl;have ang:=VE h;have b2:=Lo sL bx KL h;have hlX:sz 2 (lead x)<=u:=fU bx;have hu1:u+(s'+N+1)<=M:=by have:=Nat.le_mul_of_pos_left (s'+N+1) (show 0<j+1 by omega);omega
  apply (qj);apply fj hkI [0,1,5,6,7];apply W.sr;simp (disch:=omega) [gw,e1,hxl];apply c9 [0,1,5,6,7,8];obtain⟨T,hT⟩:∃T,T=wM (lead y)*lead x:=⟨_,rfl⟩
  have hTs:sz 2 T<=u:=Nat.le_trans (cY ar (by rw [hT,Int.natAbs_mul];have:(wM (lead y)).natAbs=1:=(by unfold wM;split<;>rfl);rw [this,Nat.one_mul];exact Nat.le_refl _)) hlX
  have hTp:(lead y<0->T = -lead x)∧(¬lead y<0->T=lead x):=by
   rw [hT];unfold wM
   constructor
   ·intro h;rw [if_pos h];omega
   ·intro h;rw [if_neg h];omega
  refine W.fR (fun σ=>∃(v:Nat),aQ σ [(0,PI x),(1,PI y),(5, .ptr 5 0 0 0),(6, .ptr 6 1 0 0),(7,ae k),(8, .ptr 8 v 0 0)] fun rows clk =>
   rows 5=some ⟨0,29,2,[[aw ay (aI DD (lead y).natAbs), .bool (decide (lead y<0))]]⟩∧rows 6=some ⟨1,29,2,[[aw ay (aI DD (lead y).natAbs), .bool false]]⟩ ∧
   rows 8=some ⟨v,29,2,[[aw ay (aI DD T.natAbs), .bool (decide (T<0))]]⟩) ?_ ?_
  ·apply fj dj [0,1,5,6,7,8,39]
   apply (dI)<;>intro h
   ·have h:lead y<0:=au h;have UR:=rF (lead x);rw [<-hTp.1 h]at UR;refine u9 UR fun K hK=>?_;exact hK _ ⟨_,ak _ [0,1,5,6,7,8],_,_,_,rfl,by simp [dj],by simp [gu],av⟩
   ·have h:¬lead y<0:=au h;rw [hTp.2 h];apply W.skip;exact⟨_,ak _ [0,1,5,6,7,8],_,_,_,rfl,by simp [dj],by simp [gu],av⟩
  clear dj gu rows clk;rintro _ ⟨v8,rows,clk,rfl,dj,gu,mI⟩;apply aR [0,1,5,6,7,8,9];refine W.nil 9 9 31 4 av ar fun K hK=>?_;refine W.lw [0,1,5,6,7,8,9] hK ?_;clear hK K;simp;apply dU [0,1,5,6,7,8,9,43,44]
  refine W.aO (fun m σ=>∃(i v9:Nat),aQ σ [(0,PI x),(1,PI y),(5, .ptr 5 0 0 0),(6, .ptr 6 1 0 0),(7,ae k),(8, .ptr 8 v8 0 0),(9, .own 9 v9 0 i),(43,ae x.length),(44,ae i)] fun rows clk =>
   rows 5=some ⟨0,29,2,[[aw ay (aI DD (lead y).natAbs), .bool (decide (lead y<0))]]⟩∧rows 6=some ⟨1,29,2,[[aw ay (aI DD (lead y).natAbs), .bool false]]⟩ ∧
   rows 8=some ⟨v8,29,2,[[aw ay (aI DD T.natAbs), .bool (decide (T<0))]]⟩∧rows 9=some ⟨v9,31,4,emap ri ((List.range i).map (Og y x))⟩∧i+m=x.length) x.length ?_ ?_
  ·exact⟨_,ak _ [0,1,5,6,7,8,9,43,44],0,_,_,_,rfl,by simp [dj],by simp [gu],by simp [mI],by simp [emap],aa⟩
  clear dj gu mI rows clk;rintro m _ ⟨i,v9,rows,clk,rfl,dj,gu,mI,Z3,UN⟩;have tZ:((List.range i).map (Og y x)).length=i:=av
  apply ef [0,1,5,6,7,8,9,43,44,45]<;>intro h
  ·have hi:i<x.length:=(by simp at h;omega);have hxi:=bx.nth i;have m1:=eY (nth x i) ((lead y).natAbs:Int) (by show sz 2 _<1099511627776;omega) (by show sz 2 _<1099511627776;omega);rw [agB]at m1;have s1:sz 2 (nth x i*((lead y).natAbs:Int))<=u+s':=ct ar hxi ZO;have er:(List.range (i+1)).map (Og y x)=(List.range i).map (Og y x) ++ [Og y x i]:=(by rw [range_succ,map_append];rfl);have hF:Og y x i=nth x i*((lead y).natAbs:Int)-if k<=i then T*nth y (i-k)else 0:=by unfold Og;rw [hk,hT]
   generalize (List.range i).map (Og y x)=acc at *;generalize hP:nth x i*((lead y).natAbs:Int)=P at *;apply (ft);apply gr [0,1,5,6,7,8,9,10,43,44];apply iI gu m1;apply (cp);rw [if_pos bX];apply bM [0,1,5,6,7,8,9,10,11,43,44];generalize hQ:Og y x i=Q at *
   have sQ:sz 2 Q<=u+(s'+N+1):=by
    have Pv:sz 2 (nth y (i-k))<=s':=sL.nth _;rw [hF]
    split
    ·have:=ct (b:=2) ar hTs Pv;have h1:=mA (b:=2) ar (x:=P) (y := -(T*nth y (i-k))) (k:=u+s') s1 (by rw [n4];exact this);rw [<-Int.sub_eq_add_neg]at h1;omega
    ·rw [Int.sub_zero];omega
   refine W.fR (fun σ=>∃(v11:Nat),aQ σ [(0,PI x),(1,PI y),(5, .ptr 5 0 0 0),(6, .ptr 6 1 0 0),(7,ae k),(8, .ptr 8 v8 0 0),(9, .own 9 v9 0 i),(11, .ptr 11 v11 0 0),(43,ae x.length),(44,ae i)] fun rows clk =>
    rows 5=some ⟨0,29,2,[[aw ay (aI DD (lead y).natAbs), .bool (decide (lead y<0))]]⟩∧rows 6=some ⟨1,29,2,[[aw ay (aI DD (lead y).natAbs), .bool false]]⟩ ∧
    rows 8=some ⟨v8,29,2,[[aw ay (aI DD T.natAbs), .bool (decide (T<0))]]⟩∧rows 9=some ⟨v9,31,4,emap ri acc⟩ ∧
    rows 11=some ⟨v11,29,2,[[aw ay (aI DD Q.natAbs), .bool (decide (Q<0))]]⟩) ?_ ?_
   ·apply fi [0,1,5,6,7,8,9,10,11,43,44,56]<;>intro h
    ·have mZ:k<=i:=(by simp at h;omega);rw [if_pos mZ]at hF;have eik:(i:Int)-(k:Int)=((i-k:Nat):Int):=aa;have hyb:i-k<y.length:=aa;have m2:=eY T (nth y (i-k)) (by show sz 2 _<1099511627776;omega) (by have:=sL.nth (i-k);show sz 2 _<1099511627776;omega);have s2:=ct (b:=2) ar hTs (sL.nth (i-k));have m3:=HD P (T*nth y (i-k)) (by show sz 2 _<1099511627776;omega) (by show sz 2 _<1099511627776;omega);rw [<-hF]at m3;generalize T*nth y (i-k)=P2 at *;refine W.Dd fun K hK=>?_;simp (disch:=omega) [gw,mI,eik];apply cT m2;apply my m3;refine aM bX ?_;apply (cp);exact hK _ ⟨_,ak _ [0,1,5,6,7,8,9,11,43,44],_,_,_,rfl,by simp [dj],by simp [gu],by simp [mI],by simp [Z3],av⟩
    ·have mZ:¬k<=i:=(by simp at h;omega);rw [if_neg mZ,Int.sub_zero]at hF;rw [hF];apply W.skip;exact⟨_,ak _ [0,1,5,6,7,8,9,11,43,44],_,_,_,rfl,by simp [dj],by simp [gu],by simp [mI],by simp [Z3],av⟩
   clear dj gu mI Z3 rows clk;rintro _ ⟨v11,rows,clk,rfl,dj,gu,mI,Z3,agC⟩;have o1:=nE 1 ar ar;have mk:=Du Q (by show sz 2 Q<549755813888;omega);refine W.Dd fun K hK=>?_;rw [if_pos rfl,fc];apply iI agC o1;apply jK mk;apply fN Z3 tZ;refine W.lw [0,1,5,6,7,8,9,43,44] hK ?_;clear hK K;simp;refine bB fun K hK=>?_;refine hK _ ⟨m-1,_,ak _ [0,1,5,6,7,8,9,43,44],aa,i+1,_,_,_,rfl,by simp [dj],by simp [gu],by simp [mI],by rw [er];simp,aa⟩
  ·have hi:i=x.length:=(by simp at h;omega);subst hi;have eB:((List.range x.length).map (Og y x)).length=x.length:=av;generalize (List.range x.length).map (Og y x)=acc at *;have ez:=bG eB;have nj:=oJ acc aa;rw [ang]at nj;apply (ey);refine W.wI fun K hK=>?_;simp (disch:=omega) [gw,Z3,ez];apply cT nj;apply (cp);obtain⟨j,rfl⟩:∃i,j=i+1:=⟨j-1,aa⟩
   rw [Nat.add_mul,Nat.one_mul]at hu;refine hK _ ⟨n,_,ak _ [0,1,5,6],aa,Of y x,j,u+(s'+N+1),_,_,rfl,by simp [dj],by simp [gu],Cn.fC _ _,aa,hxR,b2,aa,aa⟩
 ·have h:x.length<y.length:=by simp at h;omega
  rw [agA h]at hxR;subst hxR;exact rb [4]
end Go.Proofs.YtiobceocpabjdaaGreat
namespace Pm
open Go Go.RowKit List
variable {t:TypeId}{n len:Nat}{z:List PV}{parts:Array (Nat × Operand)}{o:Oper}{σ:PS}{E:Env}{rows:Rows}
section
variable {E:Env} {c:Cx} {w0:World} {S0:dz} {m:Nat} {G:Gs}
theorem aag(hI:Inv w0 S0 c){e:TypeId}{bb:Nat}(hE:E.ty t = .slice e n bb z){ρ:Operand->PV}{vρ:Operand->Value}(hρ:∀x,az c (ρ x) (vρ x))
  {els:List (List PV)} (z8:ig n 0 (parts.toList.map fun x=>(x.1,ρ x.2))=some els) (hlen:len=els.length) (hsm:len<=4096) (hn:n<=4096)
  (i3:∀e∈els,∀p∈e,ib c.rows p) :
  ∃cU,(Instr.buildSlice t len (parts.map fun(i,x)=>(i,vρ x))).run E.P c.w = .ok (.slice (some ⟨c.w.heap.size,0,none⟩) len len) (c.w.alloc (.cells cU e))∧cU.size=len*n∧aN (aB c) els.flatten cU.toList∧(∀u∈cU.toList,u.oneCell'=true)∧(∀e∈els,e.length=n)∧0<n:=by
 obtain⟨hu,hnp,Ep,i,zv,hi,hz,hs,_,Em,_⟩:=fM hE;obtain⟨g1,g2,g3⟩:=nX z8;have MC:parts.size=els.length:=by rw [g1];simp
 have aqH:zv.cells.size=n:=by rw [<-Ep,<-Em];simp
 have CZ:∀j (x:Nat × Value),((parts.map fun(i,x)=>(i,vρ x)).toList)[j]? = some x->x.1=0+j ∧ ∃e,els[j]? = some e∧aN (aB c) e x.2.cells.toList ∧ ∀u∈x.2.cells.toList,u.oneCell'=true:=by intro j x hx;simp at hx;obtain⟨a,b,fm,rfl⟩:=hx;obtain⟨q1,e,q2,q3⟩:=g3 j (a,ρ b) (by simp;exact⟨a,b,fm,rfl,rfl⟩);have q4:=mv (hρ b) q3 (fun q hq=>i3 e (mem_of_getElem? q2) q hq);exact⟨q1,e,q2,q4.1,q4.2⟩
 obtain⟨cU,f1,f2⟩:=Ae (n:=n) (parts.map fun(i,x)=>(i,vρ x)).toList 0 ((Array.range (len*n)).map (zv.cells[· % zv.cells.size]!)) (fun j x hx=>by obtain⟨q1,e,q2,q3,_⟩:=CZ j x hx;refine⟨q1,?_⟩;have:=q3.length;rw [g2 e (mem_of_getElem? q2)]at this;simpa using this.symm) (by simp [MC,hlen]);simp only [Nat.zero_mul,take_zero,nil_append]at f2
 have gQ:(Instr.buildSlice t len (parts.map fun(i,x)=>(i,vρ x))).run E.P c.w = .ok (.slice (some ⟨c.w.heap.size,0,none⟩) len len) (c.w.alloc (.cells cU e)):=by
  have hbound:¬(16777216<len*n):=by have:len*n<=4096*4096:=Nat.mul_le_mul hsm hn;omega
  by_cases h0:len*n=0
  ·have uI:len=0:=by
    rcases Nat.mul_eq_zero.1 h0 with h | h
    ·exact h
    ·omega
   have Pk:parts = #[]:=Array.eq_empty_of_size_eq_zero aa;subst Pk;subst uI;simp [Instr.fill]at f1;subst f1;have oq:Array.range 0 = #[]:=rfl;simp [Instr.buildSlice,run_underlying hu,c7 hi,newRow,Instr.fill,oq]
  ·have f1':Instr.fill (fun i=>some (i*n,n)) ((Array.range (len*n)).map (zv.cells[· % zv.cells.size]!)) (parts.toList.map fun x=>(x.1,vρ x.2))=some cU:=au f1;simp only [Instr.buildSlice,Sem.run_bind,run_underlying hu,Result.andThen_ok,c7 hi,hs];simp [h0,hbound,newRow,zeroValue,typeInfo,hi,hz,f1']
 have e3:cU.toList=((parts.map fun(i,x)=>(i,vρ x)).toList.map fun x=>x.2.cells.toList).flatten:=by rw [f2,flatMap_def]
 have key:∀(vs:List (Nat × Value)) (es:List (List PV)),vs.length=es.length->(∀(j:Nat) (x:Nat × Value),vs[j]? = some x -> ∃e,es[j]? = some e∧aN (aB c) e x.2.cells.toList ∧ ∀u∈x.2.cells.toList,u.oneCell'=true) ->
   aN (aB c) es.flatten (vs.map fun x=>x.2.cells.toList).flatten ∧ ∀u∈(vs.map fun x=>x.2.cells.toList).flatten,u.oneCell'=true:=by
  intro vs
  induction vs with
  | nil =>
   intro es hl _;have:es = []:=eq_nil_of_length_eq_zero hl.symm;subst this;exact⟨trivial,av⟩
  | cons v vs ih =>
   intro es hl h
   match es,hl with
   | e::es,hl =>
    obtain⟨h1,h2⟩:=ih es (au hl) fun j x hx=>by simpa using h (j+1) x (au hx)
    obtain⟨e',q1,q2,q3⟩:=h 0 v av;simp at q1;subst q1;simp only [flatten_cons,map_cons];refine⟨aN.append q2 h1,fun u hu=>?_⟩
    rcases mem_append.1 hu with hu | hu
    ·exact q3 u hu
    ·exact h2 u hu
 obtain⟨k1,k2⟩:=key (parts.map fun(i,x)=>(i,vρ x)).toList els (by simp [MC]) fun j x hx=>(CZ j x hx).2;rw [<-e3]at k1 k2;refine⟨cU,gQ,?_,k1,k2,g2,hnp⟩;have h5:=k1.length
 have fl:∀ {l:List (List PV)},(∀e∈l,e.length=n)->l.flatten.length=l.length*n:=by
  intro l
  induction l with
  | nil=>intro _;simp
  | cons e l ih=>intro h;rw [flatten_cons,length_append,ih (fun e he=>h e (by simp [he])),h e av,length_cons,Nat.add_mul];omega
 rw [fl g2,Array.length_toList]at h5;rw [hlen];exact h5.symm
def CF(E:Env)(o:Oper)(K:PS->Prop)(σ:PS):Prop:=
 match o.op with
 | .buildSlice t len parts =>
  match E.ty t with
  | .slice e n _ _=>∃els,ig n 0 (parts.toList.map fun x=>(x.1,aJ σ.f x.2))=some els∧len=els.length∧len<=4096∧n<=4096∧(∀x∈els,∀p∈x,ib σ.rows p) ∧
    Ew K σ o.dst (.own (o.dst.getD 0) σ.clock 0 els.length) (o.dst.getD 0) e n els
  | _=>False
 | _=>False
theorem uk{a:Act}{w:World}{K:PS->Prop}(h:CF E o K σ)(hR:Rel w0 S0 m G σ a w)(hd:∀t,o.dst=some t->t<m)
  {K':Act->World->Prop} {Q:Exit->Act->World->Prop} (hK:∀σ' a' w',K σ'->Rel w0 S0 m G σ' a' w'->K' a' w'):o.wp E.P a w K' Q:=by
 obtain⟨⟨c,rfl,hr,eB,hI,hf,hG⟩,hn,eW⟩:=hR;have hρ:=lS hf;obtain⟨dst,op,type,pos,after,guard⟩:=o;simp only at hd;unfold CF at h;simp only at h
 split at h
 ·rename_i t len parts
  split at h
  ·rename_i e n b z hE;obtain⟨els,h1,h2,h3,h4,h5,h⟩:=h;rw [<-hr]at h5;obtain⟨cU,g1,g2,g3,g4,g5,g6⟩:=aag hI hE hρ h1 h2 h3 h4 h5;obtain⟨mh,hA⟩:=wV hI (ver:=σ.clock) (fun hu=>Nat.lt_irrefl _ (eB _ hu)) (dst.getD 0) e n els.length els.length els cU rfl (Nat.le_refl _) (by simp only [maxLen];omega) (by rw [g2,h2]) (by rw [take_of_length_le (by rw [Array.length_toList,g2,h2];exact Nat.le_refl _)];exact g3) g4 g5 g6;obtain⟨f',rows',wE,Ai⟩:=qS (K:=fun f' r'=>K ⟨f',r',σ.clock+1⟩) hr eB hf hG hn eW h mh hA (kV (r:=⟨σ.clock,e,n,els⟩) (A:=some ⟨c.w.heap.size,0,none⟩) (cap:=els.length) (by simp [dH]) rfl (Or.inl rfl) (by simp [dH])) hd;unfold Oper.wp;have:(execOp a.eval { dst:=dst,op:=.buildSlice t len parts,type:=type,pos:=pos,after:=after,guard:=guard }).run E.P c.w = .ok (.value (.slice (some ⟨c.w.heap.size,0,none⟩) els.length els.length)) (c.w.alloc (.cells cU e)):=(by rw [h2]at g1;simp only [execOp,Sem.run_bind,h2,g1,Result.andThen_ok,Sem.run_pure]);rw [this];refine hK _ _ _ wE (Ai.mono fun v hv=>?_);show v<σ.clock+1
   rcases hv with rfl | hv
   ·omega
   ·have:v<σ.clock:=hv;omega
  ·exact h.elim
 ·exact h.elim
theorem nJ{ops:Array Oper}{K:PS->Prop}{Q:Exit->Act->World->Prop}{l2:List Oper}(hK:∀σ' a' w',K σ'->Rel w0 S0 m G σ' a' w'->wpList E.P ops Q l2 a' w') :
  ∀(l:List Oper) (σ:PS) (a:Act) (w:World),(∀o∈l,∀t,o.dst=some t->t<m)->aC E ops.toList l K σ->Rel w0 S0 m G σ a w->wpList E.P ops Q (l++l2) a w
 | [],σ,a,w,_,h,hR=>hK _ _ _ h hR
 | o::os,σ,a,w,hd,h,hR=>by
  have Yn:=hd o av;have yW:∀o∈os,∀t,o.dst=some t->t<m:=fun o ho=>hd o (by simp [ho])
  have wanted:∀ {σ},dJ E o (aC E ops.toList os K) σ->Rel w0 S0 m G σ a w->o.wp E.P a w (wpList E.P ops Q (os++l2)) Q:=fun hp hR =>
   nr hp hR Yn fun σ' a' w' hk gR=>nJ hK os σ' a' w' yW hk gR
  show wpList E.P ops Q (o::(os++l2)) a w;unfold wpList;simp only [aC]at h
  split at h
  ·rename_i hg;rw [if_pos (by simp [Region.wanted,hg])];exact .inl (wanted h hR)
  ·rename_i j want hg
   split at h
   ·exact h.elim
   ·rename_i d GU;have XA:(ops[j]?).bind (·.dst)=some d:=au GU;have skip:yielded ops a.tmps j≠some want->aC E ops.toList os K (σ.put o.dst (.cW []))->(if Region.wanted o (yielded ops a.tmps)=true then o.wp E.P a w (wpList E.P ops Q (os++l2)) Q∨(o.asks E.P a w∧LetsOut Q)else wpList E.P ops Q (os++l2) (a.put o.dst undef) w):=(by intro hy h2;rw [if_neg (by simpa [Region.wanted,hg]using hy)];refine nJ hK os _ _ w yW h2 ?_;obtain⟨⟨c,rfl,hr,eB,hI,hf,hG⟩,hn,eW⟩:=hR;exact oV hf hG hn eW (so.refl c) hI JW Yn rfl (by simp [PS.put,hr]) eB);obtain⟨c,_,_,_,_,hf,_⟩:=hR.ex;have hx:=hf d
    rcases h with ⟨h1,h2⟩ | ⟨h1 | h1,h2⟩
    ·rw [h1]at hx;rw [if_pos (by simp [Region.wanted,hg,iG XA hx])];exact .inl (wanted h2 hR)
    ·rw [h1]at hx;exact skip (by rw [iG XA hx];cases want<;>simp) h2
    ·rw [h1]at hx;exact skip (by rw [tT XA hx];simp) h2
end
theorem W.VG{tl:Nat->Nat}{Q:PX->PS->Prop}{id:Nat}{ops:List Oper}{y:Code}(i:Nat)(ho:ops=ops.take i++o::ops.drop (i+1))(hg:o.guard=none)
  (h:∀K:PS->Prop,(∀σ,W E n tl y Q σ->K σ)->go (aC E ops (ops.take i) (fun σ=>CF E o (aC E ops (ops.drop (i+1)) K) σ) σ)):W E n tl (.seq (.region id ops.toArray false) y) Q σ:=by
 refine W.seq ?_;intro ec w0 S0 G a w Q' hR hQ;simp only [dQ,pS,Bool.and_eq_true]at ec;have hd:∀o∈ops,∀t,o.dst=some t->t<n:=fun o ho t ht=>by have:=Array.all_eq_true_iff_forall_mem.1 ec.1 o (au ho);simpa [ht]using this
 refine wp_region_list ?_;show wpList E.P ops.toArray Q' ops a w;have h1:=h (fun σ=>W E n tl y Q σ) fun _ h=>h;have lA:o∈ops:=by rw [ho];simp
 have:=nJ (E:=E) (w0:=w0) (S0:=S0) (m:=n) (G:=G) (ops:=ops.toArray) (Q:=Q') (l2:=o::ops.drop (i+1)) (K:=fun σ=>CF E o (aC E ops (ops.drop (i+1)) (fun σ=>W E n tl y Q σ)) σ) (fun σ' a' w' hl gR=>by unfold wpList;rw [if_pos (by simp [Region.wanted,hg])];refine .inl (uk hl gR (hd o lA) fun σ2 a2 w2 hk JY=>?_);exact ik (E:=E) (ops:=ops.toArray) (fun σ3 a3 w3 XP hR3=>hQ .normal σ3 a3 w3 XP hR3) _ σ2 a2 w2 (fun o ho=>hd o (mem_of_mem_drop ho)) hk JY) (ops.take i) σ a w (fun o ho=>hd o (mem_of_mem_take ho)) h1 hR;rwa [<-ho]at this
def BA(ti:TI)(rows:Rows)(len:Nat)(ps:List (Nat × PV))(K:TypeId->Nat->List (List PV)->Prop):Prop:=
 match ti with
 | .slice e n _ _=>jl n 0 ps fun els=>aA (len=els.length∧len<=4096∧n<=4096∧jk rows els.flatten) (K e n els)
 | _=>False
@[congr] theorem aah{t t':TI}{rows':Rows}{ps M0:List (Nat × PV)}{K:TypeId->Nat->List (List PV)->Prop}(h:t=t')(h2:ps=M0)(h3:rows=rows'):BA t rows len ps K=BA t' rows' len M0 K:=by rw [h,h2,h3]
@[simp] theorem aai{e b:Nat}{ps:List (Nat × PV)}{K:TypeId->Nat->List (List PV)->Prop}:BA (.slice e n b z) rows len ps K=jl n 0 ps fun els=>aA (len=els.length∧len<=4096∧n<=4096∧jk rows els.flatten) (K e n els):=rfl
@[simp] theorem apY{K:PS->Prop}{f:Nat->PV}{clk:Nat}{d:Option Tmp}{ty:TypeId}{pos:String}{af:Array Edge} :
  CF E ⟨d, .buildSlice t len parts,ty,pos,af,none⟩ K ⟨f,rows,clk⟩=BA (E.ty t) rows len (parts.toList.map fun x=>(x.1,aJ f x.2)) fun e n els=>K ⟨put f d (.own (d.getD 0) clk 0 els.length),dH rows (d.getD 0) (some ⟨clk,e,n,els⟩),clk+1⟩:=by
 simp only [CF,BA];generalize E.ty t=T;cases T with
 | slice e n b z =>
  simp only;rw [<-w5];simp only [aA,Ew,jk];apply propext
  constructor
  ·rintro⟨els,h1,h2,h3,h4,h5,h6⟩;exact⟨els,h1,⟨h2,h3,h4,fun q hq=>by obtain⟨x,hx,hq⟩:=mem_flatten.1 hq;exact h5 x hx q hq⟩,h6⟩
  ·rintro⟨els,h1,⟨h2,h3,h4,h5⟩,h6⟩;exact⟨els,h1,h2,h3,h4,fun x hx q hq=>h5 q (mem_flatten.2 ⟨x,hx,hq⟩),h6⟩
 | _=>rfl
end Pm
namespace Go.Proofs.YtiobceocpabjdaaGreat
open Go Pm List
variable {a c:ZX}{s n:Nat}{l:List ZX}
def rz(a c:ZX):ZX:=ZX.of (rq c.l (a.l.length+1) a.l)
theorem sN(hc:c≠0):(rz a c).l=rq c.l (a.l.length+1) a.l∧ZX.N (rz a c)<ZX.N c ∧ ∃(m:Int) (q:ZX),m≠0∧ZX.K m*a=q*c+ZX.K 1*rz a c:=by obtain⟨h1,h2,m,q,hm,h3⟩:=Oh c.c (ZX.ax.1 hc) (a.l.length+1) a.l a.c aa;have e:(rz a c).l=rq c.l (a.l.length+1) a.l:=h1;refine⟨e,by show(rz a c).l.length<c.l.length;rw [e];exact h2,m,ZX.of q,hm,ZX.ext fun t=>?_⟩;rw [ZX.dN,ZX.uK,ZX.lP,ZX.dN,ZX.dN,ZX.uK,ZX.Li,e,h3 t];omega
theorem Oi(ha:BZ s n a)(hb:BZ s n c)(hc:c≠0):BZ (s+(ZX.N a+1-ZX.N c)*(s+n+1)) n (rz a c):=by have h:=adf hb (ZX.ax.1 hc) (a.l.length+1) (ZX.N a+1-ZX.N c) s a.l ha (by show ZX.N a+1<=ZX.N c+_;omega);rw [<-(sN hc).1]at h;exact h
theorem xq{C:Nat}(b:BZ s n a)(b':BZ s n c)(hP:ym C n s (nf a) (nf c))(hn:n<=20)(hC:C<=4500000000)(h1:1<=s):aj 203 [PI a.l,PI c.l] (PI (gz a c).l):=by
 have hs:=hP.le;have p1:=kE b h1 (by show s<=137438953472;omega) aa;have p2:=kE b' h1 (by show s<=137438953472;omega) aa;have b1:=b.nf;have b2:=b'.nf;have hg:gz (nf a) (nf c)=gz a c:=by rw [N9,Ll]
 have hx1:=Ij a;rw [<-hg];generalize n7:nf a=x0 at *;generalize KL:nf c=y0 at *;generalize hG:gz x0 y0=G at *;apply bL [(0,PI a.l),(1,PI c.l)] Tryz.func203;generalize a.l=al,c.l=cl at *;apply aR [0,1];apply kh p1 p2;apply bM [0,1];apply (iR)
 refine W.aO (fun k σ=>∃(x y:ZX) (s:Nat),aQ σ [(0,PI x.l),(1,PI y.l)] fun rows clk=>BZ s n x∧BZ s n y∧1<=s∧ym C n s x y∧gz x y=G∧nf x=x∧nf y=y∧k=ZX.N y) (ZX.N y0) ?_ ?_
 ·exact⟨_, .refl,x0,y0,s,_,_,rfl,b1,b2,h1,hP,hG,hx1,by rw [<-KL,Ij],rfl⟩
 rintro k _ ⟨x,y,s,rows,clk,rfl,bx,sL,h1,hp,hgz,Sr,hny,rfl⟩;have hs:=hp.le;have Zg:=bx.len;have hly:=sL.len
 apply cS [0,1,11]<;>intro h
 ·have hy:y≠0:=ZX.ax.2 (by show 0<y.l.length;simp at h;omega);obtain⟨KB,hN,m,q,hm,e⟩:=sN (a:=x) hy;have br:=Oi bx sL hy;have hmul:(x.l.length+1-y.l.length+1)*(s+n+1)<=22*4500000000:=Nat.mul_le_mul aa aa;have adg:(ZX.N x+1-ZX.N y)*(s+n+1)<=22*4500000000:=Nat.mul_le_mul (by have:ZX.N x=x.l.length:=rfl;omega) aa;have hR:=DO (s:=s) (s':=s) (N:=n) bx sL x.c y.c (ZX.ax.1 hy) aa (by show _<137438953472;omega);rw [<-KB]at hR;have pr:=kE br aa (by show _<=137438953472;omega) aa;have CC:ZX.N (nf (rz x y))<ZX.N y:=by rw [xp];exact hN
  have Gq:=hp.step CC;have nW:=Fw hm (show (1:Int)≠0 by decide) e;rw [<-Ll y (rz x y)]at nW;have br2:=br.nf;have Qv:=Ij (rz x y);generalize (rz x y).l=rl,nf (rz x y)=r2 at *;apply (qj);refine AE hR fun K hK=>?_;apply my pr;refine hK _ ⟨ZX.N r2,_,ak _ [0,1],CC,y,r2,_,_,_,rfl,sL.mono aa (Nat.le_refl _),br2,aa,Gq,by rw [<-nW,hgz],hny,Qv,rfl⟩
 ·have hy:y=0:=by refine Classical.byContradiction fun h0=>?_;have h1:=ZX.ax.1 h0;have h2:ZX.N y=y.l.length:=rfl;simp at h;rw [h2,h]at h1;simp at h1
  subst hy;rw [sK,Sr]at hgz;subst hgz;exact rb [4]
theorem Q8{h h':Nat}(b:BZ h n a)(b':BZ h' n c)(h1:1<=h)(ha:Nf a)(hc:Nf c)(hd:ZX.dv c a)(hB:h+(n+1)*(h'+n+2)+h'+n+n+10<137438953472):aj 256 [PI a.l,PI c.l] (.cW [PI (qz a c).l,PI []]):=by
 obtain⟨hw,e⟩:=nI ha hc hd;have hD:=H9 a.l c.l b b' a.c c.c (ZX.ax.1 hc.ne) h1 hB
 obtain⟨e1,e2⟩:=Vk (q:=(qz a c).l) a.c c.c (ZX.ax.1 hc.ne) (qz a c).c fun t=>by
  conv=>lhs;rw [e]
  rw [ZX.dN]
 rw [e1,e2,p7,p7,p7]at hD;exact hD
def zq(a:ZX):List PV:=[PI a.l]
@[simp] theorem as2:zq a = [PI a.l]:=rfl
@[simp] theorem aju:bC 1 (emap zq l)=True:=cE fun _=>rfl
@[simp] theorem agD{v e:Nat}:da (some ⟨v,e,n,emap zq l⟩)=True:=ck fun _=>rfl
@[simp] theorem as3:emap zq l ++ [[aw ri a.l]]=emap zq (l ++ [a]):=by simp [emap]
theorem p9.qd{d:ZX}(h:p9 s n a)(h1:1<=s)(ha:Nf a)(hc:Nf c)(hd:Nf d)(hca:ZX.dv c a)(hdc:ZX.dv d c):aj 256 [PI c.l,PI d.l] (.cW [PI (qz c d).l,PI []])∧aj 78 [PI (qz c d).l] (PI (qz c d).l):=by
 have b:=h.dv ha hc hca;have b2:=h.dv ha hd (hdc.trans hca);have hq:=h.qc;have hn:=h.hn;obtain⟨hw,e⟩:=nI hc hd hdc;have bq:=h.dv ha hw ((Vy hc hd hdc).trans hca);have hm:(n+1)*(qb s n+n+2)<=21*4500000000:=Nat.mul_le_mul aa aa;have agE:1<=qb s n:=by unfold qb;omega
 refine⟨Q8 b b2 agE hc hd hdc aa,?_⟩;have:=kE bq agE (by show _<=137438953472;omega) aa;rwa [hw.XO]at this
theorem p9.qgd(h:p9 s n a)(ha:Nf a)(hc:Nf c)(hd:ZX.dv c a):aj 160 [PI c.l] (PI (ZX.bQ c).l)∧aj 203 [PI c.l,PI (ZX.bQ c).l] (PI (gd c).l):=by
 have b:=h.dv ha hc hd;have b2:=b.bQ (by have:=h.hn;omega);have hq:=h.qc;have hn:=h.hn;have agE:1<=qb s n:=by unfold qb;omega
 refine⟨pB b (by show _<=137438953472;omega) aa,xq (s:=qb s n+5) (b.mono aa (Nat.le_refl _)) b2 ?_ h.hn (C:=4500000000) (Nat.le_refl _) aa⟩;have hN:=ZX.mL c;have h1:ZX.N c<=n:=b.N;have h2:=ZX.ax.1 hc.ne;unfold ym;rw [xp,xp,if_pos aa];refine Nat.le_trans (Nat.mul_le_mul (show qb s n+5+n+1<=qb s n+n+6 by omega) (Nat.pow_le_pow_right ar h1)) h.hC
theorem vS(h:p9 s n a)(h1:1<=s):aj 207 [PI a.l] (aw zq (fl (nf a))):=by
 have VC:=h.qc;have hn:=h.hn;have ni:s<=4500000000:=by unfold qb at VC;omega
 have p1:=kE h.bz h1 (by show s<=137438953472;omega) aa;have hA:=h.nfz;have hNa:ZX.N a=a.l.length:=rfl;have U1:=xp a;have hle:=DN (nf a);have hNA:ZX.N (nf a)<=n:=hA.bz.N;apply bL [(0,PI a.l)] Tryz.func207;apply aR [0]
 apply cS [0,2,15]<;>intro h
 ·have h2:ZX.N a<=1:=by simp at h;omega
  have h3:fl (nf a) = []:=by unfold fl;rw [Iq (by rw [U1];exact h2)];rfl
  rw [h3];apply aR [2];refine W.Kw 2 (aw zq []) av rfl fun K hK=>?_;refine W.lw [2] hK ?_;clear hK K;simp;exact gK
 have h2:2<=ZX.N a:=by simp at h;omega
 have nA:Nf (nf a):=iM (ZX.ax.2 aa);clear h;generalize nf a=A at *;obtain⟨m,hm⟩:∃m,m=nl A:=⟨_,rfl⟩
 have Jn:fl A=(List.range m).map (lp A):=by rw [hm];rfl
 rw [Jn];apply rf p1 [0];apply aR [0,3];refine W.VG 1 rfl rfl fun K hK=>?_;apply (cp);refine W.lw [3,4] hK ?_;clear hK K;simp;apply (iR)
 refine W.aO (fun k σ=>∃(i ver:Nat),aQ σ [(3, .nil),(4, .own 19 ver 0 (i+1))] fun rows clk=>rows 19=some ⟨ver,46,1,emap zq ((List.range (i+1)).map (gs A))⟩∧i+k=m) m ?_ ?_
 ·exact⟨_, .refl,0,_,_,_,rfl,by simp [emap,gs],aa⟩
 rintro k _ ⟨i,ver,rows,clk,rfl,hr,qu⟩;have tZ:((List.range (i+1)).map (gs A)).length=i+1:=av;have uh:nth ((List.range (i+1)).map (gs A)) i=gs A i:=fg _ aa;have er:(List.range (i+1+1)).map (gs A)=(List.range (i+1)).map (gs A) ++ [gs A (i+1)]:=by rw [range_succ,map_append];rfl
 have e1:((i:Int)+1-1).toNat=i:=aa;generalize hL:(List.range (i+1)).map (gs A)=L at *;apply W.seq;apply W.sr;apply qk hr tZ uh
 apply u7 [3,4,27]<;>intro h
 ·have h3:2<=ZX.N (gs A i):=by have h4:ZX.N (gs A i)=(gs A i).l.length:=rfl;simp at h;omega
  clear h
  have hi:i<nl A:=by
   rcases Nat.lt_or_ge i (nl A)with h4 | h4
   ·exact h4
   ·have h5:=(l7 A).1;rw [show nl A=i by omega]at h5;omega
  obtain⟨t1,t2⟩:=hA.qgd nA (mM nA i) (DM A i);rw [show gd (gs A i)=gs A (i+1)from rfl]at t2;generalize hg:(gs A i).l=g at *;generalize nW:gs A (i+1)=g2 at *;apply (qj);apply W.sr;apply EV hr tZ uh hg;apply c9 [3,4,5];refine u9 t1 fun K hK=>?_;apply cT t2;apply fN hr tZ;refine hK _ ⟨k-1,_,ak _ [3,4],aa,i+1,_,_,_,rfl,by rw [er];simp,aa⟩
 have h3:ZX.N (gs A i)<=1:=by have h4:ZX.N (gs A i)=(gs A i).l.length:=rfl;simp at h;omega
 clear h
 have hi:i=m:=by
  rcases Nat.lt_or_ge i (nl A)with h4 | h4
  ·have:=(l7 A).2 i h4;omega
  ·omega
 subst hi;have hR:L ++ [(1:ZX)]=(List.range (i+2)).map (gs A):=by rw [show(1:ZX)=gs A (i+1)by rw [hm,Il nA 1]];exact er.symm
 have i3:=rP;generalize hz:(1:ZX)=z1 at *;apply (iq);apply jK i3;apply AA hr tZ [3,4];clear hr uh e1 er hL tZ;have hRl:(L ++ [z1]).length=i+2:=by rw [hR];simp
 have uh:∀j,j<i+2->nth (L ++ [z1]) j=gs A j:=fun j hj=>by rw [hR];exact fg _ hj
 generalize L ++ [z1]=R at *;have hRt:List.take (i+2) R=R:=take_of_length_le aa;refine W.freeze 19 av fun K hK=>?_;simp [hRt];refine hK _ ?_;clear hK K;refine W.nil 3 3 46 1 av ar fun K hK=>?_;refine W.lw [3,4] hK ?_;clear hK K;simp;apply dU [3,4,6]
 refine W.aO (fun k σ=>∃(j ver:Nat),aQ σ [(3, .own 3 ver 0 j),(4,aw zq R),(6,ae j)] fun rows clk=>rows 3=some ⟨ver,46,1,emap zq ((List.range j).map (lp A))⟩∧j+k=i) i ?_ ?_
 ·exact⟨_, .refl,0,_,_,_,rfl,by simp [emap],aa⟩
 clear rows clk ver qu k;rintro k _ ⟨j,ver,rows,clk,rfl,hr,Ta⟩;have hjl:((List.range j).map (lp A)).length=j:=av;apply W.seq;apply fj hRl [3,4,6,50]
 apply (dI)<;>intro h
 ·have hj:j<i:=by simp at h;omega
  clear h;have er:(List.range (j+1)).map (lp A)=(List.range j).map (lp A) ++ [lp A j]:=by rw [range_succ,map_append];rfl
  have n0:=uh j aa;have n1:=uh (j+1) aa;have n2:=uh (j+2) aa;have l0:j<R.length:=aa;have l1:j+1<R.length:=aa;have l2:j+2<R.length:=aa;have e1:((j:Int)+1).toNat=j+1:=aa;have e2:((j:Int)+2).toNat=j+2:=aa;obtain⟨d1,q1⟩:=hA.qd h1 nA (mM nA j) (mM nA (j+1)) (DM A j) (yk _);obtain⟨d2,q2⟩:=hA.qd h1 nA (mM nA (j+1)) (mM nA (j+2)) (DM A (j+1)) (yk _);obtain⟨d3,q3⟩:=hA.qd h1 nA (fX nA j).1 (fX nA (j+1)).1 (zj nA j) (Io nA j);rw [show qz (gs A j) (gs A (j+1))=wz A j from rfl]at d1 q1;rw [show qz (gs A (j+1)) (gs A (j+2))=wz A (j+1)from rfl]at d2 q2;rw [show qz (wz A j) (wz A (j+1))=lp A j from rfl]at d3 q3;have h0:(nth R j).l=(gs A j).l:=by rw [n0]
  have JK:(nth R (j+1)).l=(gs A (j+1)).l:=by rw [n1]
  have h2':(nth R (j+2)).l=(gs A (j+2)).l:=by rw [n2]
  generalize (gs A j).l=g0,(gs A (j+1)).l=g1,(gs A (j+2)).l=g2,(wz A j).l=w0,(wz A (j+1)).l=w1 at *;generalize hF:lp A j=F at *;generalize hac:(List.range j).map (lp A)=acc at *;apply (ft);apply W.sd;simp (disch:=omega) [gw,h0,JK,e1];apply cT d1;apply bM [3,4,6,7];apply W.sd;simp (disch:=omega) [gw,JK,h2',e1,e2];apply cT d2;apply bM [3,4,6,7,9];apply lE q1;apply eO q2 d3;apply bM [3,4,6,11];refine AE q3 fun K hK=>?_;apply fN hr hjl;refine W.lw [3,4,6] hK ?_;clear hK K;simp;refine bB fun K hK=>?_;refine hK _ ⟨k-1,_,ak _ [3,4,6],aa,j+1,_,_,_,rfl,by rw [er];simp,aa⟩
 ·have hj:j=i:=by simp at h;omega
  subst hj;generalize (List.range j).map (lp A)=acc at *;have wH:List.take j acc=acc:=take_of_length_le aa;apply (iq);apply AA hr wH [2];apply W.ret;simp [go,hr,wH]
theorem vT(h:p9 s n a)(h1:1<=s):aj 158 [PI a.l] (PI (sq a).l):=by
 have VC:=h.qc;have hn:=h.hn;have hF:=vS h h1;have hA:=h.nfz;have hNa:ZX.N a=a.l.length:=rfl
 have hsq:ZX.N a≠0->sq a=pf (nf a) (fun _=>true) (nl (nf a)):=fun h0=>by
  have nA:=iM (ZX.ax.2 (Nat.pos_of_ne_zero h0));unfold sq
  split
  ·rename_i h2;rw [Iq (by rw [xp];exact h2),nA.N1 (by rw [xp];exact h2)];rfl
  ·rw [agw nA]
 have hNf:ZX.N a≠0->Nf (nf a):=fun h0=>iM (ZX.ax.2 (Nat.pos_of_ne_zero h0));have hle:=DN (nf a);have hNA:ZX.N (nf a)<=n:=hA.bz.N
 have ani:ZX.N a=0->(sq a).l = []:=fun h0=>by
  have h2:a=0:=Classical.byContradiction fun h3=>by have:=ZX.ax.1 h3;omega
  unfold sq;rw [if_pos aa,h2,j3];rfl
 generalize nf a=A at *;apply bL [(0,PI a.l)] Tryz.func158;apply fB [0];apply aR [0,2,8]
 refine W.cond ⟨_,rfl,fun h3=>?_,fun h3=>?_⟩
 ·have h0:ZX.N a=0:=by rw [hNa];simp at h3;rw [h3];rfl
  rw [ani h0];apply aR [2];refine W.Kw 2 (PI []) av rfl fun K hK=>?_;refine W.lw [2] hK ?_;clear hK K;simp;exact gK
 have h0:ZX.N a≠0:=by rw [hNa];simp at h3;intro h4;exact h3 (eq_nil_of_length_eq_zero h4)
 have nA:=hNf h0;rw [hsq h0];clear h3 hsq ani hNf;have hmul:∀i,aj 199 [PI (pf A (fun _=>true) i).l,PI (lp A i).l] (PI (pf A (fun _=>true) (i+1)).l):=fun i=>by have b1:=hA.dv nA (vR nA (fun _=>true) i) (zo nA _ i);have b2:=hA.dv nA (vQ nA i).1 (Fx nA i);exact oL _ _ _ _ _ _ b1 b2 (by show _<137438953472;omega)
 obtain⟨m,hm⟩:∃m,m=nl A:=⟨_,rfl⟩
 have Jn:fl A=(List.range m).map (lp A):=by rw [hm];rfl
 rw [<-hm]at hle |-;rw [Jn]at hF;have yT:((List.range m).map (lp A)).length=m:=av;have uh:∀i,i<m->(nth ((List.range m).map (lp A)) i).l=(lp A i).l:=fun i hi=>by rw [fg _ hi]
 generalize (List.range m).map (lp A)=L at *;have h1:=rP;rw [show(1:ZX)=pf A (fun _=>true) 0 from rfl]at h1;generalize hg:pf A (fun _=>true) 0=g0 at *;apply rf h1 [0,3];apply gT hF [3,4];apply W.seq;apply fj yT [3,4,14,15];subst hg;apply W.block
 refine W.aO (fun k σ=>∃(i:Nat),aQ σ [(3,PI (pf A (fun _=>true) i).l),(4,aw zq L),(14,ae m),(15,ae i)] fun rows clk=>i+k=m) m ?_ ?_
 ·exact⟨_, .refl,0,_,_,rfl,aa⟩
 rintro k _ ⟨i,rows,clk,rfl,qu⟩
 apply ef [3,4,14,15,16]<;>intro h
 ·have hi:i<m:=by simp at h;omega
  have hiL:i<L.length:=aa;have ht:=hmul i;have qe:=uh i hi;generalize nW:pf A (fun _=>true) (i+1)=g2,pf A (fun _=>true) i=g at *;apply lW [3,4,5,14,15];refine AD qe ht fun K hK=>?_;apply (cp);refine W.lw [3,4,14,15] hK ?_;clear hK K;simp;subst nW;refine bB fun K hK=>?_;refine hK _ ⟨k-1,_,ak _ [3,4,14,15],aa,i+1,_,_,rfl,aa⟩
 ·have hi:i=m:=by simp at h;omega
  subst hi;exact rb [2]
theorem Q9(h:p9 s n a)(h1:1<=s)(h0:a≠0):aj 205 [PI a.l] (PI (oz (nf a)).l):=by
 have VC:=h.qc;have hn:=h.hn;have hF:=vS h h1;have hA:=h.nfz;have nA:=iM h0;have km:a.l.length≠0:=fun h1=>by have h2:=ZX.ax.1 h0;have h3:ZX.N a=a.l.length:=rfl;omega
 have hle:=DN (nf a);have hNA:ZX.N (nf a)<=n:=hA.bz.N;generalize nf a=A at *;obtain⟨c,hc⟩:∃c:Nat->Bool,c=fun k=>k%2==0:=⟨_,rfl⟩
 have hoz:oz A=pf A c (nl A):=by rw [hc];rfl
 rw [hoz]
 have hmul:∀i,i%2=0->aj 199 [PI (pf A c i).l,PI (lp A i).l] (PI (pf A c (i+2)).l):=fun i hi=>by
  have b1:=hA.dv nA (vR nA c i) (zo nA _ i);have b2:=hA.dv nA (vQ nA i).1 (Fx nA i);have e:pf A c (i+2)=pf A c i*lp A i:=by have c1:c (i+1)=false:=(by rw [hc];simp;omega);have c2:c i=true:=(by rw [hc];simp;omega);rw [pf,if_neg (by rw [c1];decide),pf,if_pos c2]
  rw [e];exact oL _ _ _ _ _ _ b1 b2 (by show _<137438953472;omega)
 obtain⟨m,hm⟩:∃m,m=nl A:=⟨_,rfl⟩
 have Jn:fl A=(List.range m).map (lp A):=by rw [hm];rfl
 have Lp:∀i,m<=i->i<=m+1->i%2=0->pf A c i=pf A c m:=fun i hi GC hi3=>by
  rcases Nat.lt_or_ge m i with h4 | h4
  ·obtain rfl:i=m+1:=(by omega);rw [pf,if_neg (by rw [hc];simp;omega)]
  ·rw [show i=m by omega]
 rw [<-hm]at hle |-;rw [Jn]at hF;have yT:((List.range m).map (lp A)).length=m:=av;have uh:∀i,i<m->(nth ((List.range m).map (lp A)) i).l=(lp A i).l:=fun i hi=>by rw [fg _ hi]
 generalize (List.range m).map (lp A)=L at *;have h1:=rP;rw [show(1:ZX)=pf A c 0 from rfl]at h1;generalize hg:pf A c 0=g0 at *;apply bL [(0,PI a.l)] Tryz.func205;apply fB [0];apply aR [0,2,8]
 refine W.cond ⟨_,rfl,fun h3=>?_,fun h3=>?_⟩
 ·simp at h3;exact absurd (by rw [h3];rfl) km
 clear h3;apply rf h1 [0,3];apply gT hF [3,4];apply W.seq;apply aR [3,4,5];subst hg;apply W.block
 refine W.aO (fun k σ=>∃(i:Nat),aQ σ [(3,PI (pf A c i).l),(4,aw zq L),(5,ae i)] fun rows clk=>k=m-i∧i<=m+1∧i%2=0) m ?_ ?_
 ·exact⟨_, .refl,0,_,_,rfl,aa,aa,rfl⟩
 rintro k _ ⟨i,rows,clk,rfl,qu,UN,GC⟩;apply W.seq;apply fj yT [3,4,5,16]
 apply (dI)<;>intro h
 ·have hi:i<m:=by simp at h;omega
  have hiL:i<L.length:=aa;have ht:=hmul i GC;have qe:=uh i hi;generalize nW:pf A c (i+2)=g2,pf A c i=g at *;apply (ft);refine AD qe ht fun K hK=>?_;apply (cp);refine W.lw [3,4,5] hK ?_;clear hK K;simp;subst nW;refine bB fun K hK=>?_;refine hK _ ⟨m-(i+2),_,ak _ [3,4,5],aa,i+2,_,_,rfl,rfl,aa,aa⟩
 ·have hi:m<=i:=by simp at h;omega
  rw [Lp i hi UN GC];exact rb [2]
abbrev R2(n d:Int):PV:=.ag [aw ay (aI DD n.natAbs), .bool (decide (n<0)),aw ay (aI DD d.natAbs), .bool (decide (d<0))]
theorem bW(q:Rat):RR q=R2 q.num q.den:=by have:decide ((q.den:Int)<0)=false:=decide_eq_false aa;show PV.ag (re q)=PV.ag _;rw [this];rfl
def hm(n d:Int):List Int->Int × Int
 | []=>(0,1)
 | a::l=>((hm n d l).1*n+a*(hm n d l).2,(hm n d l).2*d)
def Fy(x:List Int)(n d:Int):Int:=(hm n d x).1.sign
theorem adh{s k u:Nat}{n d:Int}(hn:sz 2 n<=u)(hd:sz 2 d<=u)(hu:1<=u):∀ {x:List Int},Bd 2 s k x->sz 2 (hm n d x).1<=s+x.length*(u+1)∧sz 2 (hm n d x).2<=x.length*u+1
 | [],_=>⟨by show sz 2 0<=_;rw [show sz 2 0=0 by decide];omega,by show sz 2 1<=_;exact Nat.le_trans (dp (k:=1) ar ar) aa⟩
 | a::l,h=>by
  obtain⟨h1,h2⟩:=adh hn hd hu (x:=l) ⟨Nat.le_trans av h.len,fun c hc=>h.sz c (by simp [hc])⟩;have ha:=h.sz a av;have e:(a::l).length*u=l.length*u+u:=by rw [length_cons,Nat.add_mul];omega
  have e':(a::l).length*(u+1)=l.length*u+l.length+u+1:=by rw [length_cons,Nat.add_mul,Nat.mul_add];omega
  have e'':l.length*(u+1)=l.length*u+l.length:=by rw [Nat.mul_add];omega
  refine⟨?_,?_⟩
  ·have g1:=ct (b:=2) ar h1 hn;have g2:=ct (b:=2) ar ha h2;have:=mA (b:=2) ar (Nat.le_trans g1 (Nat.le_max_left _ (s+(l.length*u+1)))) (Nat.le_trans g2 (Nat.le_max_right (s+l.length*(u+1)+u) _));refine Nat.le_trans this ?_;rw [e',e''];omega
  ·have:=ct (b:=2) ar h2 hd;rw [e];exact Nat.le_trans this aa
theorem xt(p q p' q':Int)(hp:sz 2 p<=YY)(hq:sz 2 q<=YY)(lU:sz 2 p'<=YY)(Sa:sz 2 q'<=YY):aj 14 [R2 p q,R2 p' q'] (ae (dc (p*q') (p'*q))):=by
 have zz:∀ {x:Int},sz 2 x<=YY->Z x:=fun h=>by simp only [Z,YY]at *;omega
 have s1:=ct (b:=2) ar hp Sa;have s2:=ct (b:=2) ar lU hq;have m1:=eY p q' (zz hp) (zz Sa);have m2:=eY p' q (zz lU) (zz hq);have c1:=UA (p*q') (p'*q) (by simp only [Z,YY]at *;omega) (by simp only [Z,YY]at *;omega);generalize dc (p*q') (p'*q)=r at *;generalize p*q'=x1,p'*q=x2 at *;apply bL [(0,R2 p q),(1,R2 p' q')] Tryz.func14;apply gr [2,3];apply jK m1;apply eO m2 c1;exact eK [4]
theorem ll(p q:Rat)(hp:ZR YY p)(hq:ZR YY q):aj 14 [RR p,RR q] (ae (dc (p.num*q.den) (q.num*p.den))):=by rw [bW,bW];exact xt _ _ _ _ hp.n hp.d hq.n hq.d
@[simp] theorem Fz:aI DD 1 = [1]:=by decide
theorem Ra(x:List Int)(hl:x.length<9223372036854775808):aj 152 [PI x] (.bool true):=by
 apply bL [(0,PI x)] Tryz.func152;apply aR [0];apply dU [0,5,6]
 refine W.aO (fun k σ=>∃(i:Nat),aQ σ [(0,PI x),(5,ae x.length),(6,ae i)] fun rows clk=>i+k=x.length) x.length ?_ ?_
 ·exact⟨_, .refl,0,_,_,rfl,aa⟩
 rintro k _ ⟨i,rows,clk,rfl,hI⟩
 apply ef [0,5,6,7]<;>intro h
 ·have hi:i<x.length:=by simp at h;omega
  apply (ft);apply mz [0,3,5,6]
  apply s8 hi [0,5,6,27]<;>intro h
  ·simp at h;exact absurd rfl h
  ·apply W.skip;refine bB fun K hK=>?_;refine hK _ ⟨k-1,_,ak _ [0,5,6],aa,i+1,_,_,rfl,aa⟩
 ·exact rb [2]
theorem sO{x:List Int}{n d:Int}{k u:Nat}(hx:Bd 2 s k x)(hn:sz 2 n<=u)(hd:sz 2 d<=u)(hu:1<=u)(hk:k<1099511627776)(hB:s+k*(u+1)+u<YY):aj 77 [PI x,R2 n d] (ae (Fy x n d)):=by
 have hl:=hx.len;have hW:=Ra x aa;have hO:=nE 1 ar ar;have zz:∀ {x:Int},sz 2 x<=YY->Z x:=fun h=>by simp only [Z,YY]at *;omega
 have hY:YY=137438953472:=rfl;have bd:=fun i=>adh (s:=s) (k:=k) (x:=x.drop i) hn hd hu ⟨by simp;omega,fun c hc=>hx.sz c (mem_of_mem_drop hc)⟩;have hle:∀i,(x.drop i).length*(u+1)<=k*(u+1):=fun i=>Nat.mul_le_mul_right _ (by simp;omega);have VH:∀i,(x.drop i).length*u<=(x.drop i).length*(u+1):=fun i=>Nat.mul_le_mul_left _ aa;have step:∀i,i<x.length->hm n d (x.drop i)=((hm n d (x.drop (i+1))).1*n+nth x i*(hm n d (x.drop (i+1))).2,(hm n d (x.drop (i+1))).2*d):=fun i hi=>by rw [drop_eq_getElem_cons hi,bJ hi];rfl
 have Lp:hm n d (x.drop x.length)=(0,1):=by rw [drop_length];rfl
 have hS:=Ds (hm n d x).1;have h0:hm n d (x.drop 0)=hm n d x:=rfl;have hs:Fy x n d=(hm n d x).1.sign:=rfl;rw [hs]
 have M:∀i,i<x.length->aj 63 [RI (hm n d (x.drop (i+1))).1,RI n] (RI ((hm n d (x.drop (i+1))).1*n))∧aj 63 [RI (nth x i),RI (hm n d (x.drop (i+1))).2] (RI (nth x i*(hm n d (x.drop (i+1))).2)) ∧
   aj 154 [RI ((hm n d (x.drop (i+1))).1*n),RI (nth x i*(hm n d (x.drop (i+1))).2)] (RI (hm n d (x.drop i)).1)∧aj 63 [RI (hm n d (x.drop (i+1))).2,RI d] (RI (hm n d (x.drop i)).2):=fun i hi=>by
  obtain⟨b1,b2⟩:=bd (i+1);have l1:=hle (i+1);have l2:=VH (i+1);have ha:=hx.sz _ (bo hi);have g1:=ct (b:=2) ar b1 hn;have g2:=ct (b:=2) ar ha b2;have e:=step i hi;rw [e];exact⟨eY _ _ (zz aa) (zz aa),eY _ _ (zz aa) (zz aa),AY _ _ (by simp only [Z];omega) (by simp only [Z];omega),eY _ _ (zz aa) (zz aa)⟩
 clear bd hle VH step;generalize hm n d x=r0 at *;apply bL [(0,PI x),(1,R2 n d)] Tryz.func77;apply fB [0,3]
 apply fH hW [0,3,10]<;>intro h
 ·simp at h
 apply W.skip;apply fk [0,3,5] hO [0,3,5,6];apply W.seq;apply aR [0,3,5,6,7];refine W.row (id:=5) (els:=[[.nil, .bool false]]) [[aw ay (aI DD (0:Int).natAbs), .bool (decide ((0:Int)<0))]] (by simp;first | exact⟨rfl,rfl,rfl⟩ | exact⟨rfl,rfl⟩ | rfl) ⟨⟨.inr ⟨rfl,rfl⟩, .inl rfl,trivial⟩,trivial⟩ ?_;apply W.block
 refine W.aO (fun k σ=>∃(v3 v5 v6 e3 e5 e6:Nat),aQ σ [(0,PI x),(3, .ptr 3 v3 0 0),(5, .ptr 5 v5 0 0),(6, .ptr 6 v6 0 0),(7,ae ((k:Int)-1))] fun rows clk=>k<=x.length ∧
  rows 3=some ⟨v3,e3,4,[[aw ay (aI DD n.natAbs), .bool (decide (n<0)),aw ay (aI DD d.natAbs), .bool (decide (d<0))]]⟩ ∧
  rows 5=some ⟨v5,e5,2,[[aw ay (aI DD (hm n d (x.drop k)).1.natAbs), .bool (decide ((hm n d (x.drop k)).1<0))]]⟩ ∧
  rows 6=some ⟨v6,e6,2,[[aw ay (aI DD (hm n d (x.drop k)).2.natAbs), .bool (decide ((hm n d (x.drop k)).2<0))]]⟩) x.length ?_ ?_
 ·exact⟨_, .refl,_,_,_,_,_,_,_,_,rfl,Nat.le_refl _,by simp;(first | exact⟨rfl,rfl,rfl⟩ | exact⟨rfl,rfl⟩ | rfl),by rw [Lp];simp;(first | exact⟨rfl,rfl,rfl⟩ | exact⟨rfl,rfl⟩ | rfl),by rw [Lp];simp;(first | exact⟨rfl,rfl,rfl⟩ | exact⟨rfl,rfl⟩ | rfl)⟩
 rintro k _ ⟨v3,v5,v6,e3,e5,e6,rows,clk,rfl,hkl,bA,dj,gu⟩
 apply cS [0,3,5,6,7,21]<;>intro h
 ·have wG:0<k:=by simp at h;omega
  obtain⟨k,rfl⟩:∃j,k=j+1:=⟨k-1,aa⟩
  obtain⟨m1,m2,m3,m4⟩:=M k aa;generalize hm n d (x.drop (k+1))=A at *;have e1:(((k+1:Nat):Int)-1).toNat=k:=aa;apply (ft);apply W.sd;apply ra bA dj gu m1;simp (disch:=omega) [gw,e1]
  try simp (disch:=omega) [gw,e1,gu]
  apply cT m2;apply jK m3;apply dB dj
  try (refine aM bX ?_)
  try simp (disch:=omega) [gw,dj]
  apply c9 [0,3,5,6,7];refine W.wI fun K hK=>?_;apply iS bA gu m4;apply dB gu;refine W.lw [0,3,5,6,7] hK ?_;clear hK K;simp;refine bB fun K hK=>?_;refine hK _ ⟨k,_,ak _ [0,3,5,6,7],aa,v3,v5,v6,_,_,_,_,_,rfl,aa,by simp [bA];exact rfl,by simp;exact rfl,by simp;exact rfl⟩
 ·have wG:k=0:=by simp at h;omega
  subst wG;rw [h0]at dj;apply (iq);apply iI dj hS;exact eK [4]
end Go.Proofs.YtiobceocpabjdaaGreat
namespace Go.Proofs.YtiobceocpabjdaaGreat
open Go Pm List
open ZX hiding N W
variable {s n:Nat}{a b f:ZX}
theorem VI{y:List Int}(cy:Cn y)(hy:0<y.length):∀(n:Nat) (x:List Int),Cn x->x.length<n -> ∃(m:Int) (q:List Int),0<m ∧ ∀t,m*V t x=V t q*V t y+V t (rq y n x)
 | 0,x,_,h=>by omega
 | n+1,x,cx,h=>by
  rw [rq]
  split
  ·exact⟨1,[],ar,fun t=>by simp [V]⟩
  ·rename_i h1;have hl:=sM hy (show y.length<=x.length by omega);obtain⟨m,q,hm,h4⟩:=VI cy hy n (Of y x) (Cn.fC _ _) aa;have uI:=cZ cy hy;refine⟨m*(lead y).natAbs,iw q (aY (qo (x.length-y.length) (wM (lead y)*lead x)) m),Int.mul_pos hm aa,fun t=>?_⟩;have h5:=VF t y x;have h6:=h4 t;rw [rp,cM,nD];have:m*((lead y).natAbs:Int)*V t x=m*(((lead y).natAbs:Int)*V t x):=aG;rw [this,h5];grind
theorem VJ{x y s q:List Int}{D:Int}(cx:Cn x)(cy:Cn y)(hy:0<y.length)(cs:Cn s)(hs:s.length<y.length)(hD:0<D)(hv:∀t,D*V t x=V t q*V t y+V t s):H3 x y=jL s:=by
 have hV:=fun t=>Ud t x y;have hl:=EX (a:=x) hy;obtain⟨c1,c2⟩:=AK (b:=y) cx;rw [U4 cx];have uI:=cZ cy hy;have pY:lead y^jn x y≠0:=Int.pow_ne_zero uI;have Ir:=U2 (lead y) (jn x y);have hsq:=U3 (lead y) (jn x y);generalize sg (lead y) (jn x y)=g,(xV x y).1=p,(xV x y).2=r at *;generalize hc:lead y^jn x y=c at *;have hm:0<((lead y).natAbs:Int)^jn x y:=Int.pow_pos aa;generalize ((lead y).natAbs:Int)^jn x y=m at *
 have e:∀t,V t (fC (s.map (· * c)) (r.map (· * D)))=V t y*V t (fC (p.map (· * D)) (q.map (· * c))):=fun t=>by
  have h1:=hv t;have h2:=hV t;rw [iT,iT,dM,dM,dM,dM];have h3:c*(D*V t x)=c*(V t q*V t y+V t s):=by rw [h1]
  have h4:D*(V t p*V t y+V t r)=D*(c*V t x):=by rw [h2]
  grind
 have h1:=Di (Cn.fC _ _) cy hy e (by have:=vh (s.map (· * c)) (r.map (· * D));simp only [length_map]at this;omega);have wL:D≠0:=aa;have e1:s.map (· * c)=r.map (· * D):=Cn.ext (ky cs pY) (ky c2 wL) fun t=>Ib (by rw [h1];rfl) t;rw [<-yc cs hm,<-yc (Cn.aY r g) hD];congr 1;refine Cn.ext (Cn.aY _ _) (Cn.aY _ _) fun t=>?_;have e2:V t s*c=V t r*D:=by rw [<-dM,e1,dM]
 rw [cM,cM,cM];have h5:m=g*c:=by rw [Ir];grind
 rw [h5];have:V t s*(g*c)=g*(V t s*c):=aG;rw [this,e2];grind
def qf(a:ZX):ZX:=⟨jL a.l,Cn.cut _⟩
def nx(a b:ZX):ZX:=⟨gL (jL (rz a b).l),Cn.gL _⟩
theorem Rb(hb:b≠0):ZX.N (nx a b)<ZX.N b:=by obtain⟨_,hN,_⟩:=sN (a:=a) hb;have h1:=H6 (jL (rz a b).l);have h2:=lj (rz a b).l;have h3:ZX.N (nx a b)=(gL (jL (rz a b).l)).length:=rfl;have h4:ZX.N (rz a b)=(rz a b).l.length:=rfl;omega
theorem Oj(ha:BZ s n a)(hb:BZ s n b)(h0:b≠0):BZ (s+(ZX.N a+1-ZX.N b)*(s+n+1)) n (nx a b):=Bd.gL (jc (Oi ha hb h0))
def um:Nat->ZX->ZX->List ZX
 | 0,_,_=>[]
 | k+1,a,b=>if ZX.N b=0 then []else b::um k b (nx a b)
theorem j4(k:Nat)(a:ZX):um k a 0 = []:=by cases k<;>simp [um,show ZX.N 0=0 by decide]
theorem BB:∀ {k j:Nat} {a b:ZX},ZX.N b<=k->ZX.N b<=j->um k a b=um j a b
 | 0,j,a,b,h,_=>by
  have:b=0:=Classical.byContradiction fun h0=>by have:=ZX.ax.1 h0;omega
  rw [this,j4,j4]
 | k+1,0,a,b,_,h=>by
  have:b=0:=Classical.byContradiction fun h0=>by have:=ZX.ax.1 h0;omega
  rw [this,j4,j4]
 | k+1,j+1,a,b,h1,h2=>by
  rw [um,um]
  split
  ·rfl
  ·rename_i h0;have:=Rb (a:=a) (ZX.ax.2 (Nat.pos_of_ne_zero h0));rw [BB (k:=k) (j:=j) aa aa]
def aH(f:ZX):List ZX:=f::um (ZX.N f) f (qf (bQ f))
theorem agF(x:List Int):PP (qd x 1)=PI x:=by rw [Fh];show PV.sl (emap re (qs x))=PV.sl (emap ri x);rw [Bm]
theorem yo(b:BZ s n a)(ni:1<=s)(hs:s<=YY)(hn:n<1099511627776):aj 159 [PI a.l] (PI (qf a).l):=by have:=H8 a.l 1 ar b (by exact Nat.le_trans (dp (k:=1) ar ar) ni) a.c ni hs hn;rw [show((1:Nat):Int)=1 from rfl,agF]at this;exact this
structure Ch(s n:Nat)(f:ZX):Prop where
 bz:BZ s n f
 hn:n<=20
 qe:1<=n
 hC:(s+5+n+1)*4^n<=4500000000
theorem Ch.pot(h:Ch s n f):ym 4500000000 n (s+5) f (qf (bQ f)):=by
 have h1:=mL f;have h2:ZX.N (qf (bQ f))<=ZX.N (bQ f):=lj _;have h3:=h.bz.N;have hn:=h.qe;unfold ym
 split
 ·exact Nat.le_trans (Nat.mul_le_mul_left _ (Nat.pow_le_pow_right ar h3)) h.hC
 ·have h4:ZX.N (qf (bQ f))=0:=by omega
  have h5:=h.hC;rw [h4,Nat.pow_zero,Nat.mul_one];exact Nat.le_trans (Nat.mul_le_mul_left _ (show 2<=4^n from Nat.le_trans ar (Nat.pow_le_pow_right (n:=4) ar hn))) h5
theorem VK{l:List ZX}{i:Nat}(h:i<l.length):nth (l ++ [a]) i=nth l i:=by simp only [nth,getElem?_append_left h]
theorem yp(hS:aj 158 [PI a.l] (PI f.l))(h:Ch s n f)(h1:1<=s):aj 81 [PI a.l] (aw zq (aH f)):=by
 have hn:=h.hn;have hp:=h.pot;have hs:=hp.le;have bd:BZ (s+5) n (bQ f):=h.bz.bQ aa;have d1:=pB h.bz (by show s<=137438953472;omega) aa;have d2:=yo bd aa (by show s+5<=137438953472;omega) aa;have b2:BZ (s+5) n (qf (bQ f)):=jc bd;have b1:BZ (s+5) n f:=h.bz.mono aa (Nat.le_refl _);have CC:ZX.N (qf (bQ f))<=ZX.N f:=Nat.le_trans (lj _) (Nat.le_trans (mL f) aa);have hc:aH f=f::um (ZX.N f) f (qf (bQ f)):=rfl;rw [BB CC (Nat.le_refl _)]at hc;generalize hC:aH f=C,qf (bQ f)=g0,(bQ f).l=dl at *;have Jn:f.l=f.l:=rfl;apply bL [(0,PI a.l)] Tryz.func81;apply fk [0] hS [3];refine W.VG 1 rfl rfl fun K hK=>?_;apply (cp);refine W.lw [3,4] hK ?_;clear hK K;simp;apply kh d1 d2;apply bM [4,5];apply (iR)
 refine W.aO (fun k σ=>∃(L:List ZX) (x g:ZX) (i ver s:Nat),aQ σ [(4, .own 9 ver 0 (i+1)),(5,PI g.l)] fun rows clk=>rows 9=some ⟨ver,46,1,emap zq L⟩∧L.length=i+1∧nth L i=x ∧
  L++um k x g=C∧k=ZX.N g∧BZ s n x∧BZ s n g∧1<=s∧ym 4500000000 n s x g∧i+ZX.N g<=20) (ZX.N g0) ?_ ?_
 ·exact⟨_, .refl,[f],f,g0,0,_,s+5,_,_,rfl,by simp [emap],rfl,rfl,hc.symm,rfl,b1,b2,aa,hp,by have:=b2.N;omega⟩
 rintro k _ ⟨L,x,g,i,ver,s,rows,clk,rfl,hr,hL,hx,Lg,rfl,bx,bg,h1,hp,hiN⟩;have hs:=hp.le;have Zg:=bx.len;have hlg:=bg.len;have hLl:(emap zq L).length=i+1:=by simp [emap,hL]
 apply cS [4,5,15]<;>intro h
 ·have hg:g≠0:=ZX.ax.2 (by show 0<g.l.length;simp at h;omega);obtain⟨KB,hN,_⟩:=sN (a:=x) hg;have br:=Oi bx bg hg;have hmul:(x.l.length+1-g.l.length+1)*(s+n+1)<=22*4500000000:=Nat.mul_le_mul aa aa;have adg:(ZX.N x+1-ZX.N g)*(s+n+1)<=22*4500000000:=Nat.mul_le_mul (by have:ZX.N x=x.l.length:=rfl;omega) aa;have hR:=DO (s:=s) (s':=s) (N:=n) bx bg x.c g.c (ZX.ax.1 hg) aa (by show _<137438953472;omega);rw [<-KB]at hR;have hZ:=yo br aa (by show _<=137438953472;omega) aa;have hNg:=Dy (qf (rz x g)).l ((jc br).mono (by show _<=137438953472;omega) aa);have e3:gL (qf (rz x g)).l=(nx x g).l:=rfl;rw [e3]at hNg;have CC:=Rb (a:=x) hg;have Gq:=hp.step CC;have bn:=Oj bx bg hg;have hi:i<L.length:=aa;have hx2:nth (L ++ [g]) i=x:=by rw [VK hi];exact hx
  have ank:i<(L ++ [g]).length:=by simp;omega
  have hch:L ++ [g]++um (ZX.N (nx x g)) g (nx x g)=C:=by
   rw [<-Lg];obtain⟨j,hj⟩:∃j,ZX.N g=j+1:=⟨ZX.N g-1,by have:=ZX.ax.1 hg;have:ZX.N g=g.l.length:=rfl;omega⟩
   rw [hj,um,if_neg aa,BB (k:=j) (j:=ZX.N (nx x g)) aa (Nat.le_refl _)];simp
  generalize (rz x g).l=rl,(qf (rz x g)).l=pl at *;generalize Sr:nx x g=nn at *;have X3:nn.l=nn.l:=rfl;apply (qj);apply oD hr hLl [4,5];have e1:((i:Int)+1+1-2).toNat=i:=aa;refine W.wI fun K hK=>?_;simp (disch:=omega) [gw,e1,ank,hx2];apply cT hR;apply eO hZ hNg;apply (cp);refine hK _ ⟨ZX.N nn,_,ak _ [4,5],CC,L ++ [g],g,nn,i+1,_,_,_,_,rfl,av,by simp [hL],?_,hch,rfl,bg.mono aa (Nat.le_refl _),bn,aa,Gq,aa⟩;rw [bJ (by simp;omega)];simp [<-hL]
 ·have hg:g=0:=by refine Classical.byContradiction fun h0=>?_;have h1:=ZX.ax.1 h0;have h2:ZX.N g=g.l.length:=rfl;simp at h;rw [h2,h]at h1;simp at h1
  subst hg;rw [j4,append_nil]at Lg;subst Lg;have wH:List.take (i+1) L=L:=take_of_length_le aa;apply qZ [2];apply W.ret;simp [go,hr,hLl,wH]
end Go.Proofs.YtiobceocpabjdaaGreat
namespace Pm
variable {x M y:Rat}
def qv(t:Rat):List Int->Rat
 | []=>0
 | a::l=>(a:Rat)+t*qv t l
section
variable {t:Rat}
theorem uo{α:Type}(f g:α->Int):∀l:List α,qv t (l.map fun k=>f k+g k)=qv t (l.map f)+qv t (l.map g)
 | []=>by simp only [List.map_nil,qv];grind
 | x::l=>by simp only [List.map_cons,qv,uo f g l,Rat.intCast_add];grind
theorem BC{α:Type}(c:Int)(f:α->Int):∀l:List α,qv t (l.map fun k=>f k*c)=qv t (l.map f)*c
 | []=>by simp only [List.map_nil,qv];grind
 | x::l=>by simp only [List.map_cons,qv,BC c f l,Rat.intCast_mul];grind
theorem oe:∀(a:List Int) (n:Nat),qv t (a++List.replicate n 0)=qv t a
 | [],0=>rfl
 | [],n+1=>by have:=oe [] n;simp only [List.nil_append]at this;simp only [List.nil_append,List.replicate_succ,qv,this,Rat.intCast_zero];grind
 | x::a,n=>by simp only [List.cons_append,qv,oe a n]
theorem vU:∀l:List Int,qv t (aK l)=qv t l
 | []=>rfl
 | x::l=>by
  have ih:=vU l;simp only [aK]
  split
  ·rename_i h;rw [h.1]at ih;simp only [qv]at ih |-;rw [<-ih,h.2,Rat.intCast_zero];grind
  ·simp only [qv,ih]
theorem l8{x:List Int}{n:Nat}(h:x.length<=n):qv t ((List.range n).map (nth x))=qv t x:=by rw [oE h,oe]
theorem Ok(x y:List Int):qv t (iw x y)=qv t x+qv t y:=by rw [iw,vU,uo,l8 aa,l8 aa]
theorem aaj(x y:List Int):qv t (fC x y)=qv t x-qv t y:=by
 rw [fC,vU];have h1:=uo (t:=t) (fun k=>nth x k-nth y k) (nth y) (List.range (max x.length y.length));have h2:(fun k=>nth x k-nth y k+nth y k)=nth x:=by funext k;omega
 rw [h2,l8 aa,l8 aa]at h1;grind
theorem Iw:∀x y:List Int,qv t (gE x y)=qv t x*qv t y
 | [],y=>by simp only [gE,qv];grind
 | a::x,y=>by have:=BC (t:=t) a id y;simp only [id_eq,List.map_id_fun]at this;rw [gE,Ok,this];simp only [qv,Iw x y,Rat.intCast_zero];grind
theorem aak(x y:List Int):qv t (bN x y)=qv t x*qv t y:=by rw [bN,vU,Iw]
end
namespace ZX
section
variable {t:Rat}
def e(t:Rat)(x:ZX):Rat:=qv t x.l
theorem adi(x y:ZX):e t (x+y)=e t x+e t y:=Ok _ _
theorem iC(x y:ZX):e t (x*y)=e t x*e t y:=aak _ _
theorem anl(x y:ZX):e t (x-y)=e t x-e t y:=aaj _ _
theorem agG(x:List Int):e t (of x)=qv t x:=vU x
theorem wN(c:Int):e t (K c)=c:=by rw [K,agG];simp only [qv];grind
theorem Ol:e t 1=1:=wN 1
end
end ZX
def Ab(x M:Rat):Prop := -M<=x∧x<=M
def jM(e x:Rat):Prop:=x <= -e∨e<=x
theorem Ab.mono{N:Rat}(h:Ab x M)(hMN:M<=N):Ab x N:=by obtain⟨h1,h2⟩:=h;exact⟨aG,aG⟩
theorem Ab.add{N:Rat}(h:Ab x M)(h':Ab y N):Ab (x+y) (M+N):=by obtain⟨h1,h2⟩:=h;obtain⟨h3,h4⟩:=h';exact⟨aG,aG⟩
theorem Ab.mul{N:Rat}(h:Ab x M)(h':Ab y N):Ab (x*y) (M*N):=by obtain⟨h1,h2⟩:=h;obtain⟨h3,h4⟩:=h';have p1:=Rat.mul_nonneg (show 0<=M-x by grind) (show 0<=N-y by grind);have p2:=Rat.mul_nonneg (show 0<=M+x by grind) (show 0<=N+y by grind);have p3:=Rat.mul_nonneg (show 0<=M-x by grind) (show 0<=N+y by grind);have p4:=Rat.mul_nonneg (show 0<=M+x by grind) (show 0<=N-y by grind);exact⟨aG,aG⟩
theorem jM.mono{e f:Rat}(h:jM e x)(hf:f<=e):jM f x:=by
 rcases h with h | h
 ·left;grind
 ·right;grind
theorem zr{e:Rat}(h:¬jM e x) : -e<x∧x<e:=by
 constructor
 ·exact Rat.not_le.1 fun h1=>h (.inl h1)
 ·exact Rat.not_le.1 fun h1=>h (.inr h1)
theorem CG{e:Rat}(h:¬jM e x):Ab x e:=by obtain⟨h1,h2⟩:=zr h;exact⟨Rat.le_of_lt h1,Rat.le_of_lt h2⟩
def bU(x:Rat):Int:=if x<0 then -1 else if 0<x then 1 else 0
theorem fY(h:x<0):bU x = -1:=if_pos h
theorem eE(h:0<x):bU x=1:=by rw [bU,if_neg aG,if_pos h]
theorem jd:bU 0=0:=by decide
theorem cP(x:Rat):(x<0∧bU x = -1)∨(x=0∧bU x=0)∨(0<x∧bU x=1):=by
 by_cases h:x<0
 ·exact .inl ⟨h,fY h⟩
 ·by_cases h2:0<x
  ·exact .inr (.inr ⟨h2,eE h2⟩)
  ·have:x=0:=(by grind);subst this;exact .inr (.inl ⟨rfl,jd⟩)
theorem nK(x:Rat):bU x = -1∨bU x=0∨bU x=1:=by
 rcases cP x with h | h | h
 ·exact .inl h.2
 ·exact .inr (.inl h.2)
 ·exact .inr (.inr h.2)
theorem Lr:bU x = -1↔x<0:=by rcases cP x with ⟨h,e⟩ | ⟨h,e⟩ | ⟨h,e⟩<;>rw [e]<;>constructor<;>intro h2<;>first | omega | grind
theorem Ls:bU x=1↔0<x:=by rcases cP x with ⟨h,e⟩ | ⟨h,e⟩ | ⟨h,e⟩<;>rw [e]<;>constructor<;>intro h2<;>first | omega | grind
theorem eo:bU x=0↔x=0:=by rcases cP x with ⟨h,e⟩ | ⟨h,e⟩ | ⟨h,e⟩<;>rw [e]<;>constructor<;>intro h2<;>first | omega | grind
theorem sP(x y:Rat):bU (x*y)=bU x*bU y:=by
 rcases cP x with ⟨h,e⟩ | ⟨h,e⟩ | ⟨h,e⟩<;>rcases cP y with ⟨h',e'⟩ | ⟨h',e'⟩ | ⟨h',e'⟩<;>rw [e,e']
 ·have:=Rat.mul_pos (show 0 < -x by grind) (show 0 < -y by grind);rw [eE aG];rfl
 ·rw [h',Rat.mul_zero];rfl
 ·have:=Rat.mul_pos (show 0 < -x by grind) h';rw [fY aG];rfl
 ·rw [h,Rat.zero_mul];rfl
 ·rw [h,Rat.zero_mul];rfl
 ·rw [h,Rat.zero_mul];rfl
 ·have:=Rat.mul_pos h (show 0 < -y by grind);rw [fY aG];rfl
 ·rw [h',Rat.mul_zero];rfl
 ·rw [eE (Rat.mul_pos h h')];rfl
theorem fJ{e:Rat}(h:jM e x)(he:0<e)(pR:¬jM e (y-x)):bU y=bU x∧bU x≠0:=by
 obtain⟨h1,h2⟩:=zr pR
 rcases h with h | h
 ·rw [fY (show x<0 by grind),fY (show y<0 by grind)];decide
 ·rw [eE (show 0<x by grind),eE (show 0<y by grind)];decide
def dd(s t:Rat):List Int->Rat
 | []=>0
 | _::l=>qv t l+s*dd s t l
def cc(s t:Rat):List Int->Rat
 | []=>0
 | _::l=>dd s t l+s*cc s t l
theorem mO(s t:Rat):∀x:List Int,qv t x-qv s x=(t-s)*dd s t x
 | []=>by simp only [qv,dd];grind
 | a::l=>by have:=mO s t l;simp only [qv,dd];grind
theorem Lt(s t:Rat):∀x:List Int,dd s t x-dd s s x=(t-s)*cc s t x
 | []=>by simp only [dd,cc];grind
 | a::l=>by have:=Lt s t l;have:=mO s t l;simp only [dd,cc];grind
section
variable {S B s t:Rat} (hS:0<=S) (hB:1<=B) (hs:Ab s B) (ht:Ab t B)
def Cb(S B:Rat):Nat->Rat
 | 0=>S
 | k+1=>Cb S B k*(4*B)
include hS hB in
theorem nM:∀k,0<=Cb S B k∧S<=Cb S B k
 | 0=>⟨hS,Rat.le_refl⟩
 | k+1=>by obtain⟨h1,h2⟩:=nM k;have h3:=Rat.mul_le_mul_of_nonneg_left (show (1:Rat)<=4*B by grind) h1;rw [Cb];exact⟨aG,aG⟩
include hS hB ht in
theorem Ix:∀x:List Int,(∀c∈x,Ab (c:Rat) S)->Ab (qv t x) (Cb S B x.length)
 | [],_=>by show Ab 0 S;exact⟨aG,hS⟩
 | a::l,h=>by have h1:=Ix l fun c hc=>h c (List.mem_cons_of_mem _ hc);have h2:=(h a (List.mem_cons_self ..)).add (ht.mul h1);obtain⟨h3,h4⟩:=nM hS hB l.length;have h5:=Rat.mul_le_mul_of_nonneg_left hB h3;refine h2.mono ?_;rw [List.length_cons,Cb];grind
include hS hB hs ht in
theorem DP:∀x:List Int,(∀c∈x,Ab (c:Rat) S)->Ab (dd s t x) (Cb S B x.length)
 | [],_=>by show Ab 0 S;exact⟨aG,hS⟩
 | a::l,h=>by have h1:=DP l fun c hc=>h c (List.mem_cons_of_mem _ hc);have h0:=Ix hS hB ht l fun c hc=>h c (List.mem_cons_of_mem _ hc);have h2:=h0.add (hs.mul h1);obtain⟨h3,h4⟩:=nM hS hB l.length;have h5:=Rat.mul_le_mul_of_nonneg_left hB h3;refine h2.mono ?_;rw [List.length_cons,Cb];grind
include hS hB hs ht in
theorem VL:∀x:List Int,(∀c∈x,Ab (c:Rat) S)->Ab (cc s t x) (Cb S B x.length)
 | [],_=>by show Ab 0 S;exact⟨aG,hS⟩
 | a::l,h=>by have h1:=VL l fun c hc=>h c (List.mem_cons_of_mem _ hc);have h0:=DP hS hB hs ht l fun c hc=>h c (List.mem_cons_of_mem _ hc);have h2:=h0.add (hs.mul h1);obtain⟨h3,h4⟩:=nM hS hB l.length;have h5:=Rat.mul_le_mul_of_nonneg_left hB h3;refine h2.mono ?_;rw [List.length_cons,Cb];grind
end
theorem vV(t:Rat):∀(l:List Int) (k:Nat),qv t (ZX.qx (k+1) l)=qv t (ZX.qx k l)+qv t l
 | [],k=>by simp only [ZX.qx,qv];grind
 | a::l,k=>by simp only [ZX.qx,qv];rw [vV t l (k+1)];have:((k+1:Nat):Int)=(k:Int)+1:=aa;rw [this,Rat.intCast_mul,Rat.intCast_mul,Rat.intCast_add,Rat.intCast_one];grind
theorem yt(t:Rat):∀l:List Int,qv t (ZX.qx 1 l)=qv t l+t*dd t t l
 | []=>by simp only [ZX.qx,qv,dd];grind
 | b::m=>by rw [ZX.qx];simp only [qv,dd];rw [vV,yt t m];rw [show((1:Nat):Int)=1 from rfl,Int.mul_one];grind
theorem adj(t:Rat)(x:ZX):(ZX.bQ x).e t=dd t t x.l:=by
 rw [ZX.bQ,ZX.agG];obtain⟨l,hl⟩:=x;show qv t (ZX.xn l)=dd t t l
 match l with
 | []=>rfl
 | a::l=>rw [ZX.DK,yt];rfl
end Pm
namespace Pm
variable {ε t:Rat}{a:ZX}{l:List ZX}
def CI(p:Int):List Int->Nat
 | []=>0
 | s::l=>if s=0 then CI p l else(if p≠0∧s≠p then 1 else 0)+CI s l
def cl:List Int->List Int->Prop
 | [],[]=>True
 | [x],[y]=>x=y∧x≠0
 | [_,x],[_,y]=>x=y∧x≠0
 | x0::x1::x2::x,y0::y1::y2::y=>cl (x1::x2::x) (y1::y2::y)∧((x1=y1∧x1≠0)∨(x0=y0∧x2=y2∧x0 = -x2∧x2≠0))
 | _,_=>False
theorem FA:∀(n:Nat) (p:Int) (x y:List Int),x.length<=n->p≠0->(p = -1∨p=1)->(∀s∈x,s = -1∨s=0∨s=1)->(∀s∈y,s = -1∨s=0∨s=1)->cl (p::x) (p::y)->CI p x=CI p y
 | _,p,[],[],_,_,_,_,_,_=>rfl
 | _,p,[x1],[y1],_,_,_,_,_,h=>by obtain⟨rfl,h2⟩:=h;rfl
 | _,p,[],[y1],_,_,_,_,_,h=>by simp [cl]at h
 | _,p,[x1],[],_,_,_,_,_,h=>by simp [cl]at h
 | _,p,[],_::_::_,_,_,_,_,_,h=>by simp [cl]at h
 | _,p,_::_::_,[],_,_,_,_,_,h=>by simp [cl]at h
 | _,p,[_],_::_::_,_,_,_,_,_,h=>by simp [cl]at h
 | _,p,_::_::_,[_],_,_,_,_,_,h=>by simp [cl]at h
 | 0,p,x1::x2::x,y1::y2::y,hn,_,_,_,_,_=>by simp at hn
 | n+1,p,x1::x2::x,y1::y2::y,hn,hp,Zv,hx,hy,h=>by
  obtain⟨h1,h2⟩:=h
  rcases h2 with ⟨rfl,h2⟩ | ⟨_,rfl,h3,h4⟩
  ·have ih:=FA n x1 (x2::x) (y2::y) (by simp at hn |-;omega) h2 (by have:=hx x1 av;omega) (fun s hs=>hx s (List.mem_cons_of_mem _ hs)) (fun s hs=>hy s (List.mem_cons_of_mem _ hs)) h1;simp only [CI]at ih |-;rw [if_neg h2,if_neg h2,ih]
  ·have ht:CI x2 x=CI x2 y:=by
    refine FA n x2 x y (by simp at hn |-;omega) h4 (by have:=hx x2 av;omega) (fun s hs=>hx s (by simp [hs])) (fun s hs=>hy s (by simp [hs])) ?_
    match x,y,h1 with
    | [],[],_=>exact⟨rfl,h4⟩
    | [],_::_,h1=>simp [cl]at h1
    | _::_,[],h1=>simp [cl]at h1
    | _::_,_::_,h1=>exact h1.1
   have key:∀z:Int,(z = -1∨z=0∨z=1) -> ∀w:List Int,CI p (z::x2::w)=1+CI x2 w:=fun z hz w=>by
    simp only [CI]
    rcases hz with rfl | rfl | rfl
    ·rw [if_neg ar,if_neg h4]
     rcases Zv with rfl | rfl
     ·rw [if_neg aa,if_pos aa];omega
     ·rw [if_pos aa,if_neg aa];omega
    ·rw [if_pos rfl,if_neg h4,if_pos aa]
    ·rw [if_neg ar,if_neg h4]
     rcases Zv with rfl | rfl
     ·rw [if_pos aa,if_neg aa];omega
     ·rw [if_neg aa,if_pos aa];omega
   rw [key x1 (hx x1 av),key y1 (hy y1 av),ht]
open ZX
def Om(ε t:Rat):List ZX->Prop
 | []=>False
 | [a]=>jM ε (e t a)
 | [_,b]=>jM ε (e t b)
 | a::b::c::l=>Om ε t (b::c::l)∧(jM ε (e t b)∨(jM ε (e t a)∧jM ε (e t c)∧bU (e t a) = -bU (e t c)))
theorem Om.mono{ε δ t:Rat}(h:δ<=ε):∀ {l:List ZX},Om ε t l->Om δ t l
 | [],g=>g
 | [a],g=>jM.mono g h
 | [a,b],g=>jM.mono (x:=e t b) g h
 | a::b::c::l,g=>⟨Om.mono h g.1,by
  rcases g.2 with g | ⟨g1,g2,g3⟩
  ·exact .inl (g.mono h)
  ·exact .inr ⟨g1.mono h,g2.mono h,g3⟩⟩
theorem Om.two{b:ZX}:∀ {l:List ZX},Om ε t (a::b::l)->jM ε (e t a)∨jM ε (e t b)
 | [],g => .inr g
 | c::l,g=>by
  rcases g.2 with g | ⟨g1,g2,g3⟩
  ·exact .inr g
  ·exact .inl g1
def CJ(t:Rat)(l:List ZX):List Int:=l.map fun p=>bU (e t p)
theorem zu:∀s∈CJ t l,s = -1∨s=0∨s=1:=fun s hs=>by simp only [CJ,List.mem_map]at hs;obtain⟨p,_,rfl⟩:=hs;exact nK _
theorem VM{ε s t:Rat}(hε:0<ε):∀ {l:List ZX},Om ε s l->(∀p∈l,¬jM ε (e t p-e s p))->cl (CJ s l) (CJ t l)
 | [],g,_=>g.elim
 | [a],g,h=>by obtain⟨h1,h2⟩:=fJ g hε (h a av);exact⟨h1.symm,h2⟩
 | [a,b],g,h=>by obtain⟨h1,h2⟩:=fJ (x:=e s b) g hε (h b av);exact⟨h1.symm,h2⟩
 | a::b::c::l,g,h=>by
  refine⟨VM hε g.1 fun p hp=>h p (List.mem_cons_of_mem _ hp),?_⟩
  rcases g.2 with g | ⟨g1,g2,g3⟩
  ·obtain⟨h1,h2⟩:=fJ g hε (h b av);exact .inl ⟨h1.symm,h2⟩
  ·obtain⟨h1,h2⟩:=fJ g1 hε (h a av);obtain⟨h3,h4⟩:=fJ g2 hε (h c av);exact .inr ⟨h1.symm,h3.symm,g3,h4⟩
def vt(l:List ZX)(t:Rat):Nat:=CI 0 (CJ t l)
def ind(a:ZX)(s t:Rat):Nat:=if e s a≠0∧bU (e t a)≠bU (e s a)then 1 else 0
theorem aal{s:Rat}(hε:0<ε)(g:Om ε s (a::l))(h:∀p∈a::l,¬jM ε (e t p-e s p))
  (hm:∀b k,l=b::k->jM ε (e s b)->bU (e t a-e s a)=bU (e s b)):vt (a::l) s=vt (a::l) t+ind a s t:=by
 have hc:=VM hε g h
 have hA:jM ε (e s a)->vt (a::l) s=vt (a::l) t+ind a s t:=fun ha=>by
  obtain⟨h1,h2⟩:=fJ ha hε (h a av);have h3:ind a s t=0:=if_neg fun h=>h.2 h1;rw [h3];have uP:cl (bU (e s a)::CJ s l) (bU (e s a)::CJ t l):=by have:CJ t (a::l)=bU (e s a)::CJ t l:=(by rw [<-h1];rfl);rw [this]at hc;exact hc
  have h4:=FA _ _ _ _ (Nat.le_refl _) h2 (by have:=nK (e s a);omega) zu zu uP;show CI 0 (bU (e s a)::CJ s l)=CI 0 (bU (e t a)::CJ t l)+0;rw [h1];simp only [CI];rw [if_neg h2,if_neg h2,h4];omega
 match l,g,h,hc,hm,hA with
 | [],g,h,hc,hm,hA=>exact hA g
 | b::l,g,h,hc,hm,hA =>
  rcases g.two with ha | hb
  ·exact hA ha
  ·obtain⟨h1,h2⟩:=fJ hb hε (h b av);have h3:=hm b l rfl hb
   have uP:cl (bU (e s b)::CJ s l) (bU (e s b)::CJ t l):=by
    match l,hc with
    | [],hc=>exact⟨rfl,h2⟩
    | c::l,hc =>
     have h8:cl (bU (e s b)::CJ s (c::l)) (bU (e t b)::CJ t (c::l)):=hc.1;rw [h1]at h8;exact h8
   have h4:=FA _ _ _ _ (Nat.le_refl _) h2 (by have:=nK (e s b);omega) zu zu uP;show CI 0 (bU (e s a)::bU (e s b)::CJ s l)=CI 0 (bU (e t a)::bU (e t b)::CJ t l)+ind a s t;rw [h1];simp only [CI];rw [if_neg h2,if_neg h2,h4]
   have hi:ind a s t=if bU (e s a)≠0∧bU (e t a)≠bU (e s a)then 1 else 0:=by
    unfold ind
    by_cases h6:e s a=0
    ·rw [if_neg (fun h7=>h7.1 h6),if_neg (fun h7=>h7.1 (eo.2 h6))]
    ·have h7:bU (e s a)≠0:=fun h8=>h6 (eo.1 h8);simp only [ne_eq,h6,h7,not_false_eq_true,true_and]
   rw [hi]
   have hd:(bU (e s b) = -1->bU (e t a)<=bU (e s a)∧(bU (e t a)=bU (e s a)->bU (e s a)≠0))∧(bU (e s b)=1->bU (e s a)<=bU (e t a)∧(bU (e t a)=bU (e s a)->bU (e s a)≠0)):=by
    refine⟨fun h6=>?_,fun h6=>?_⟩
    ·have h5:=Lr.1 (h3.trans h6);rcases cP (e s a)with ⟨q1,r1⟩ | ⟨q1,r1⟩ | ⟨q1,r1⟩<;>rcases cP (e t a)with ⟨q2,r2⟩ | ⟨q2,r2⟩ | ⟨q2,r2⟩<;>rw [r1,r2]<;>first | decide | (exfalso;grind)
    ·have h5:=Ls.1 (h3.trans h6);rcases cP (e s a)with ⟨q1,r1⟩ | ⟨q1,r1⟩ | ⟨q1,r1⟩<;>rcases cP (e t a)with ⟨q2,r2⟩ | ⟨q2,r2⟩ | ⟨q2,r2⟩<;>rw [r1,r2]<;>first | decide | (exfalso;grind)
   have m1:=nK (e s a);have m2:=nK (e t a);have m3:=nK (e s b);generalize bU (e s a)=σ at *;generalize bU (e t a)=τ at *;generalize bU (e s b)=γ at *;generalize CI γ (CJ t l)=T at *;obtain⟨d1,d2⟩:=hd;clear hc uP h1 h3 hm hA h g hb hi
   rcases m3 with rfl | rfl | rfl
   ·obtain⟨d3,d4⟩:=d1 rfl;rcases m1 with rfl | rfl | rfl<;>rcases m2 with rfl | rfl | rfl<;>first | (exfalso;omega) | (simp;try omega)
   ·exact absurd rfl h2
   ·obtain⟨d3,d4⟩:=d2 rfl;rcases m1 with rfl | rfl | rfl<;>rcases m2 with rfl | rfl | rfl<;>first | (exfalso;omega) | (simp;try omega)
end Pm
namespace Pm
open ZX hiding N W
variable {M ε x y Q B S δ a b t:Rat}{c:Int}{l:List Int}{P:Rat->Rat->Prop}
def StC(M B:Rat):List ZX->Prop
 | []=>False
 | [a]=>∃c:Int,c≠0∧a=K c
 | [_,b]=>∃c:Int,c≠0∧b=K c
 | a::b::c::l=>StC M B (b::c::l) ∧ ∃(m k:Int) (q:ZX),0<m∧0<k∧K m*a=q*b-K k*c∧2*(m:Rat)<=M ∧ ∀t,Ab t B->Ab (2*e t q) M
def yP(M:Rat):Nat->Rat
 | 0=>1
 | k+1=>yP M k/M
theorem FB(hM:2<=M)(k:Nat):M*yP M (k+1)=yP M k:=by rw [yP,Rat.mul_comm,Rat.div_mul_cancel aG]
theorem vW{M:Rat}(hM:2<=M):∀k,0<yP M k
 | 0=>by show(0:Rat)<1;decide
 | k+1=>by have h1:=vW hM k;have h2:=FB hM k;refine Rat.not_le.1 fun h=>?_;have h3:=Rat.mul_nonneg (show 0<=M by grind) (show 0 <= -yP M (k+1)by grind);grind
theorem FC(hM:2<=M)(k:Nat):yP M (k+1)<=yP M k:=by have h1:=vW hM (k+1);have h2:=FB hM k;have h3:=Rat.mul_le_mul_of_nonneg_right (show 1<=M by grind) (Rat.le_of_lt h1);grind
theorem uq{M:Rat}(hM:2<=M):∀k,yP M k<=1
 | 0=>Rat.le_refl
 | k+1=>Rat.le_trans (FC hM k) (uq hM k)
theorem sS(h:c≠0):jM 1 (c:Rat):=by
 rcases Int.lt_trichotomy c 0 with h1 | h1 | h1
 ·left;have:((c:Int):Rat)<=((-1:Int):Rat):=Rat.intCast_le_intCast.2 aa;rw [Rat.intCast_neg,Rat.intCast_one]at this;exact this
 ·exact absurd h1 h
 ·right;have:((1:Int):Rat)<=((c:Int):Rat):=Rat.intCast_le_intCast.2 aa;rw [Rat.intCast_one]at this;exact this
theorem ep(h:0<c):(1:Rat)<=(c:Rat):=by have:((1:Int):Rat)<=((c:Int):Rat):=Rat.intCast_le_intCast.2 aa;rwa [Rat.intCast_one]at this
theorem VN{ε' z q m k:Rat}(hM:2<=M)(he:M*ε'=ε)(hp:0<ε')(hm:1<=m)(hk:1<=k)(hmM:2*m<=M)(hq:Ab (2*q) M)(e:m*x=q*y-k*z)(hy:¬jM ε' y)(hz:jM ε z):jM ε' x∧bU x = -bU z:=by
 have h1:=hq.mul (CG hy);rw [he]at h1;obtain⟨h2,h3⟩:=h1;have hε:0<ε:=by rw [<-he];exact Rat.mul_pos aG hp
 have h6:=Rat.mul_le_mul_of_nonneg_right hmM (Rat.le_of_lt hp)
 rcases hz with hz | hz
 ·have h4:=Rat.mul_le_mul_of_nonneg_right hk (show 0 <= -z by grind);have h5:ε<=2*(m*x):=aG;have h7:ε'<=x:=Rat.not_lt.1 fun h=>by have:=Rat.mul_lt_mul_of_pos_left h (show 0<m by grind);grind
  refine⟨.inr h7,?_⟩;rw [fY (x:=z) aG,eE (x:=x) aG];rfl
 ·have h4:=Rat.mul_le_mul_of_nonneg_right hk (show 0<=z by grind);have h5:2*(m*x) <= -ε:=aG;have h7:x <= -ε':=Rat.not_lt.1 fun h=>by have:=Rat.mul_lt_mul_of_pos_left h (show 0<m by grind);grind
  refine⟨.inl h7,?_⟩;rw [eE (x:=z) aG,fY (x:=x) aG]
theorem StC.Om{M B t:Rat}(hM:2<=M)(ht:Ab t B):∀ {l:List ZX},StC M B l->Om (yP M l.length) t l
 | [],h=>h
 | [a],h=>by obtain⟨c,hc,rfl⟩:=h;show jM _ (e t (K c));rw [wN];exact(sS hc).mono (uq hM _)
 | [a,b],h=>by obtain⟨c,hc,rfl⟩:=h;show jM _ (e t (K c));rw [wN];exact(sS hc).mono (uq hM _)
 | a::b::c::l,h=>by
  obtain⟨h1,m,k,q,hm,hk,he,hmM,hq⟩:=h;have ih:=StC.Om hM ht h1;refine⟨ih.mono (FC hM _),?_⟩
  by_cases hb:jM (yP M (a::b::c::l).length) (e t b)
  ·exact .inl hb
  ·have hc:jM (yP M (b::c::l).length) (e t c):=by
    rcases ih.two with h2 | h2
    ·exact absurd (h2.mono (FC hM _)) hb
    ·exact h2
   have Bw:(m:Rat)*e t a=e t q*e t b-k*e t c:=(by rw [<-wN (t:=t) m,<-iC,he,anl,iC,iC,wN]);obtain⟨g1,g2⟩:=VN hM (FB hM _) (vW hM _) (ep hm) (ep hk) hmM (hq t ht) Bw hb hc;exact .inr ⟨g1,hc.mono (FC hM _),g2⟩
structure XQ(L:List ZX)(f:ZX)(B δ:Rat):Prop where
 turns:∀s t,Ab s B->Ab t B->s<t->t-s<=δ->vt L s=vt L t+ind f s t
 simple:∀s t,Ab s B->Ab t B->s<t->t-s<=δ->e s f=0->e t f≠0
theorem yu{h:Rat}(hh:0<=h)(hx:Ab x Q)(hQ:h*Q<ε):¬jM ε (h*x):=fun hb=>by
 obtain⟨h1,h2⟩:=(Ab.mul (x:=h) (M:=h) ⟨aG,Rat.le_refl⟩ hx)
 rcases hb with hb | hb<;>grind
theorem Rc{h c d1 d2:Rat}(hh:0<h)(hε:0<ε)(hc:1<=c)(hx:Ab x Q)(hQ:h*Q<ε)(hy:jM ε y)(e1:d1=c*y)(e2:d2-d1=h*x):bU (h*d2)=bU y:=by
 obtain⟨h1,h2⟩:=(Ab.mul (x:=h) (M:=h) ⟨aG,Rat.le_refl⟩ hx)
 have hs:bU (h*d2)=bU d2:=by rw [sP,eE hh];omega
 rw [hs]
 rcases hy with hy | hy
 ·have:=Rat.mul_le_mul_of_nonneg_right hc (show 0 <= -y by grind);rw [fY (show y<0 by grind),fY (show d2<0 by grind)]
 ·have:=Rat.mul_le_mul_of_nonneg_right hc (show 0<=y by grind);rw [eE (show 0<y by grind),eE (show 0<d2 by grind)]
theorem StC.loc{f:ZX}{l:List ZX}(hM:2<=M)(hB:1<=B)(hS:0<=S)(h:StC M B (f::l))(hb:∀p∈f::l,(∀c∈p.l,Ab (c:Rat) S)∧Cb S B p.l.length<=Q)(hd:∀g k,l=g::k -> ∃c:Int,0<c∧bQ f=K c*g)
  (hδ:δ*Q<yP M (f::l).length):XQ (f::l) f B δ:=by
 have hQ0:0<=Q:=by obtain⟨h1,h2⟩:=hb f av;obtain⟨h3,h4⟩:=nM hS hB f.l.length;grind
 have hε:=vW hM (f::l).length;have o7:∀s t:Rat,s<t->t-s<=δ->(t-s)*Q<yP M (f::l).length:=fun s t g9 hd=>by have:=Rat.mul_le_mul_of_nonneg_right hd hQ0;grind
 have key:∀s t,Ab s B->Ab t B->s<t->t-s<=δ->(∀p∈f::l,¬jM (yP M (f::l).length) (e t p-e s p)) ∧ ∀b k,l=b::k->jM (yP M (f::l).length) (e s b)->bU (e t f-e s f)=bU (e s b):=fun s t hs ht g9 hsd=>by
  refine⟨fun p hp=>?_,fun b k hbk GK=>?_⟩
  ·obtain⟨h1,h2⟩:=hb p hp;show ¬jM _ (qv t p.l-qv s p.l);rw [mO];exact yu aG ((DP hS hB hs ht p.l h1).mono h2) (o7 s t g9 hsd)
  ·obtain⟨c,hc,he⟩:=hd b k hbk;obtain⟨h1,h2⟩:=hb f av;show bU (qv t f.l-qv s f.l)=_;rw [mO];exact Rc (d1:=dd s s f.l) aG hε (ep hc) ((VL hS hB hs ht f.l h1).mono h2) (o7 s t g9 hsd) GK (by rw [<-adj,he,iC,wN]) (Lt s t f.l)
 refine⟨fun s t hs ht g9 hsd=>?_,fun s t hs ht g9 hsd h0=>?_⟩
 ·obtain⟨k1,k2⟩:=key s t hs ht g9 hsd;exact aal hε (h.Om hM hs) k1 k2
 ·obtain⟨k1,k2⟩:=key s t hs ht g9 hsd;have g:=h.Om hM hs;have nb:¬jM (yP M (f::l).length) (e s f):=by rw [h0];rintro(h1 | h1)<;>grind
  match l,g,k2 with
  | [],g,_=>exact absurd g nb
  | b::k,g,k2 =>
   have GK:=g.two.resolve_left nb;have h2:=k2 b k rfl GK;intro h3;rw [h0,h3,show(0:Rat)-0=0 by grind,jd]at h2;have h4:=eo.1 h2.symm;rw [h4]at GK;rcases GK with h1 | h1<;>grind
theorem agH(hδ:0<δ)(ht:∀a b c,a<b->b<c->P a b->P b c->P a c)(hs:∀a b,Ab a B->Ab b B->a<b->b-a<=δ->P a b)(ha:Ab a B)(hb:Ab b B)(fm:a<b):P a b:=by
 have key:∀(n:Nat) (a b:Rat),Ab a B->Ab b B->a<b->b-a<=(n:Rat)*δ->P a b:=by
  intro n
  induction n with
  | zero=>intro a b _ _ h1 h2;exfalso;rw [show((0:Nat):Rat)=0 from rfl]at h2;grind
  | succ n ih =>
   intro a b ha hb h1 h2
   by_cases h3:b-a<=δ
   ·exact hs a b ha hb h1 h3
   ·have h3:=Rat.not_le.1 h3;obtain⟨a1,a2⟩:=ha;obtain⟨b1,b2⟩:=hb;have hm:Ab (a+δ) B:=⟨aG,aG⟩
    refine ht a (a+δ) b aG aG (hs _ _ ⟨a1,a2⟩ hm aG aG) (ih _ _ hm ⟨b1,b2⟩ aG ?_);rw [show((n+1:Nat):Rat)=(n:Rat)+1 from by rw [Rat.natCast_add];rfl]at h2;grind
 have h1:=Rat.lt_floor_add_one ((b-a)/δ);have h2:0<=((b-a)/δ).floor:=Rat.le_floor_iff.2 (by have:=(Rat.lt_div_iff (a:=0) (b:=b-a) hδ).2 aG;show((0:Int):Rat)<=_;rw [Rat.intCast_zero];exact Rat.le_of_lt this);refine key ((((b-a)/δ).floor+1).toNat) a b ha hb fm ?_;have h3:(((((b-a)/δ).floor+1).toNat:Nat):Rat)=((((b-a)/δ).floor+1:Int):Rat):=by rw [<-Rat.intCast_natCast,Int.toNat_of_nonneg aa]
 rw [h3];have h4:=(Rat.div_lt_iff hδ).1 h1;exact Rat.le_of_lt h4
structure ur(L:List ZX)(f:ZX):Prop where
 loc:∀B:Rat,1<=B -> ∃δ,0<δ∧XQ L f B δ
theorem iU(a b:Rat):∃B:Rat,1<=B∧Ab a B∧Ab b B:=by
 have h1:∀x:Rat,∃B:Rat,1<=B∧Ab x B:=fun x=>by
  by_cases h:0<=x
  ·exact⟨x+1,aG,aG,aG⟩
  ·exact⟨-x+1,aG,aG,aG⟩
 obtain⟨A,hA,ha⟩:=h1 a;obtain⟨B,hB,hb⟩:=h1 b;exact⟨A+B,aG,ha.mono aG,hb.mono aG⟩
namespace ur
variable {L:List ZX} {f:ZX} (h:ur L f)
include h
theorem VO(ht:∀a b c,a<b->b<c->P a b->P b c->P a c)(hs:∀B δ,XQ L f B δ -> ∀a b,Ab a B->Ab b B->a<b->b-a<=δ->P a b)(fm:a<b):P a b:=by obtain⟨B,hB,ha,hb⟩:=iU a b;obtain⟨δ,hδ,hl⟩:=h.loc B hB;exact agH hδ ht (hs B δ hl) ha hb fm
theorem bI(fm:a<=b):vt L b<=vt L a:=by
 rcases Rat.le_iff_lt_or_eq.1 fm with h1 | rfl
 ·refine h.VO (P:=fun a b=>vt L b<=vt L a) (fun a b c _ _ h1 h2=>Nat.le_trans h2 h1) (fun B δ hl a b ha hb fm hd=>?_) h1;rw [hl.turns a b ha hb fm hd];omega
 ·exact Nat.le_refl _
theorem flat(fm:a<b)(he:vt L a=vt L b):e b f≠0∧(e a f≠0->bU (e b f)=bU (e a f)):=by
 refine h.VO (P:=fun a b=>vt L a=vt L b->e b f≠0∧(e a f≠0->bU (e b f)=bU (e a f))) (fun a b c h1 h2 p1 p2 hac=>?_) (fun B δ hl a b ha hb fm hd heq=>?_) fm he
 ·have:=h.bI (Rat.le_of_lt h1);have:=h.bI (Rat.le_of_lt h2);obtain⟨q1,q2⟩:=p1 aa;obtain⟨q3,q4⟩:=p2 aa;exact⟨q3,fun ha=>by rw [q4 q1,q2 ha]⟩
 ·have h1:=hl.turns a b ha hb fm hd;have h2:ind f a b=0:=aa;unfold ind at h2
  by_cases h0:e a f=0
  ·exact⟨hl.simple a b ha hb fm hd h0,fun h3=>absurd h0 h3⟩
  ·have h3:bU (e b f)=bU (e a f):=Classical.byContradiction fun h3=>by rw [if_pos ⟨h0,h3⟩]at h2;omega
   refine⟨fun h4=>h0 (eo.1 ?_),fun _=>h3⟩;rw [<-h3,h4,jd]
theorem const(fm:a<b){σ:Int}(h0:e a f=0∨bU (e a f)=σ)(h1:∀x,a<x->x<=b->bU (e x f)=σ):vt L a=vt L b:=by
 refine h.VO (P:=fun x y=>a<=x->y<=b->vt L x=vt L y) (fun x y z pR hyz p1 p2 hax hzb=>(p1 hax aG).trans (p2 aG hzb)) (fun B δ hl x y hx hy pR hd hax hyb=>?_) fm Rat.le_refl Rat.le_refl;rw [hl.turns x y hx hy pR hd]
 have h2:ind f x y=0:=if_neg fun h3=>by
  obtain⟨h4,h5⟩:=h3;rw [h1 y aG hyb]at h5
  rcases Rat.le_iff_lt_or_eq.1 hax with h6 | rfl
  ·exact h5 (h1 x h6 aG).symm
  ·rcases h0 with h0 | h0
   ·exact h4 h0
   ·exact h5 h0.symm
 omega
theorem root{s:Rat}(g9:s<t)(h0:e t f=0):vt L t<vt L s:=by have h1:=h.bI (Rat.le_of_lt g9);refine Nat.lt_of_le_of_ne h1 fun h2=>?_;exact(h.flat g9 h2.symm).1 h0
theorem count{roots:List Rat}(hn:roots.Nodup)(hr:∀r∈roots,e r f=0)(hc:∀a b,a<b->(∀r∈roots,a<r->b<r)->vt L a=vt L b)(fm:a<b):vt L a=vt L b+(roots.countP fun r=>decide (a<r∧r<=b)):=by
 refine h.VO (P:=fun a b=>vt L a=vt L b+(roots.countP fun r=>decide (a<r∧r<=b))) (fun a b c h1 h2 p1 p2=>?_) (fun B δ hl a b ha hb fm hd=>?_) fm
 ·rw [p1,p2]
  have:∀l:List Rat,(l.countP fun r=>decide (a<r∧r<=c))=(l.countP fun r=>decide (a<r∧r<=b))+(l.countP fun r=>decide (b<r∧r<=c)):=fun l=>by
   induction l with
   | nil=>rfl
   | cons x l ih =>
    rw [List.countP_cons,List.countP_cons,List.countP_cons,ih]
    by_cases q1:a<x∧x<=b
    ·have q2:¬(b<x∧x<=c):=fun q=>by grind
     have q3:a<x∧x<=c:=⟨q1.1,aG⟩
     rw [if_pos (decide_eq_true q3),if_pos (decide_eq_true q1),if_neg (fun h=>q2 (of_decide_eq_true h))];omega
    ·by_cases q2:b<x∧x<=c
     ·have q3:a<x∧x<=c:=⟨aG,q2.2⟩
      rw [if_pos (decide_eq_true q3),if_neg (fun h=>q1 (of_decide_eq_true h)),if_pos (decide_eq_true q2)];omega
     ·have q3:¬(a<x∧x<=c):=fun q=>by
       by_cases q4:x<=b
       ·exact q1 ⟨q.1,q4⟩
       ·exact q2 ⟨Rat.not_le.1 q4,q.2⟩
      rw [if_neg (fun h=>q3 (of_decide_eq_true h)),if_neg (fun h=>q1 (of_decide_eq_true h)),if_neg (fun h=>q2 (of_decide_eq_true h))];omega
  rw [this roots];omega
 ·have h1:=hl.turns a b ha hb fm hd;have h2:ind f a b<=1:=by unfold ind;split<;>omega
  have hm:∀r,r∈roots.filter (fun r=>decide (a<r∧r<=b))↔r∈roots∧a<r∧r<=b:=fun r=>by simp [List.mem_filter]
  have GV:(roots.filter (fun r=>decide (a<r∧r<=b))).Nodup:=hn.filter _;rw [List.countP_eq_length_filter]
  match hF:roots.filter (fun r=>decide (a<r∧r<=b)),hm,GV with
  | [],hm,_ =>
   rw [List.length_nil,Nat.add_zero];refine hc a b fm fun r hr h3=>Rat.not_le.1 fun h4=>?_;have:=(hm r).2 ⟨hr,h3,h4⟩;simp at this
  | [r],hm,_ =>
   obtain⟨g1,g2,g3⟩:=(hm r).1 av;have:=h.root g2 (hr r g1);have:=h.bI g3;simp only [List.length_cons,List.length_nil];omega
  | r::q::l,hm,GV =>
   exfalso;obtain⟨g1,g2,g3⟩:=(hm r).1 av;obtain⟨k1,k2,k3⟩:=(hm q).1 av;have km:r≠q:=by simp only [List.nodup_cons,List.mem_cons,not_or]at GV;exact GV.1.1
   rcases Rat.le_total (a:=r) (b:=q)with h5 | h5
   ·have:=h.root (Rat.lt_of_le_of_ne h5 km) (hr q k1);have:=h.root g2 (hr r g1);have:=h.bI k3;omega
   ·have:=h.root (Rat.lt_of_le_of_ne h5 (Ne.symm km)) (hr r g1);have:=h.root k2 (hr q k1);have:=h.bI g3;omega
end ur
theorem zw{a b:Int}(h:Cn (a::b::l)):Cn (b::l):=by
 unfold Cn at h |-;rw [aK]at h
 split at h
 ·simp at h
 ·simpa using h
theorem xu{a b:Int}:lead (a::b::l)=lead (b::l):=by unfold lead;simp only [List.length_cons,Nat.add_sub_cancel];rw [jD]
theorem DQ{S t:Rat}(hS:0<=S)(ht:S+1<=t):∀ {x:List Int},Cn x->0<x.length->(∀c∈x,Ab (c:Rat) S)->(0<lead x->1<=qv t x)∧(lead x<0->qv t x <= -1)
 | [a],hc,_,_=>by
  have e1:qv t [a]=(a:Rat):=by simp only [qv];grind
  have e2:lead [a]=a:=rfl;rw [e1,e2];refine⟨fun h=>ep h,fun h=>?_⟩;have:((a:Int):Rat)<=((-1:Int):Rat):=Rat.intCast_le_intCast.2 aa;rwa [Rat.intCast_neg,Rat.intCast_one]at this
 | a::b::l,hc,_,hb=>by
  obtain⟨h1,h2⟩:=DQ hS ht (zw hc) av fun c hc=>hb c (List.mem_cons_of_mem _ hc);obtain⟨h3,h4⟩:=hb a av;have e1:qv t (a::b::l)=a+t*qv t (b::l):=rfl;rw [xu,e1]
  refine⟨fun h=>?_,fun h=>?_⟩
  ·have:=Rat.mul_le_mul_of_nonneg_left (h1 h) (show 0<=t by grind);grind
  ·have:=Rat.mul_le_mul_of_nonneg_left (show 1 <= -qv t (b::l)by have:=h2 h;grind) (show 0<=t by grind);grind
theorem Iy{S t:Rat}(hS:0<=S)(ht:t <= -(S+1)):∀ {x:List Int},Cn x->0<x.length->(∀c∈x,Ab (c:Rat) S)->(0<(if x.length%2=0 then -lead x else lead x)->1<=qv t x)∧((if x.length%2=0 then -lead x else lead x)<0->qv t x <= -1)
 | [a],hc,_,_=>by
  have e1:qv t [a]=(a:Rat):=by simp only [qv];grind
  have e2:lead [a]=a:=rfl;rw [e1,e2,if_neg av];refine⟨fun h=>ep h,fun h=>?_⟩;have:((a:Int):Rat)<=((-1:Int):Rat):=Rat.intCast_le_intCast.2 aa;rwa [Rat.intCast_neg,Rat.intCast_one]at this
 | a::b::l,hc,_,hb=>by
  obtain⟨h1,h2⟩:=Iy hS ht (zw hc) av fun c hc=>hb c (List.mem_cons_of_mem _ hc);obtain⟨h3,h4⟩:=hb a av;have e1:qv t (a::b::l)=a+t*qv t (b::l):=rfl;have e2:(if (a::b::l).length%2=0 then -lead (a::b::l)else lead (a::b::l)) = -(if (b::l).length%2=0 then -lead (b::l)else lead (b::l)):=by rw [xu];simp only [List.length_cons];split<;>split<;>omega
  rw [e2,e1];generalize (if (b::l).length%2=0 then -lead (b::l)else lead (b::l))=z at *
  refine⟨fun h=>?_,fun h=>?_⟩
  ·have:=Rat.mul_le_mul_of_nonneg_left (show 1 <= -qv t (b::l)by have:=h2 aa;grind) (show 0 <= -t by grind);grind
  ·have:=Rat.mul_le_mul_of_nonneg_left (h1 aa) (show 0 <= -t by grind);grind
theorem DR(hS:0<=S){x:List Int}(hc:Cn x)(hb:∀c∈x,Ab (c:Rat) S):(S+1<=t->bU (qv t x)=(lead x).sign)∧(t <= -(S+1)->bU (qv t x)=if x.length%2=0 then -(lead x).sign else(lead x).sign):=by
 rcases Nat.eq_zero_or_pos x.length with h0 | h0
 ·have:x = []:=List.eq_nil_of_length_eq_zero h0;subst this;refine⟨fun _=>?_,fun _=>?_⟩<;>simp only [qv]<;>decide
 ·have hl:=cZ hc h0
  refine⟨fun ht=>?_,fun ht=>?_⟩
  ·obtain⟨h1,h2⟩:=DQ hS ht hc h0 hb
   rcases Int.lt_trichotomy (lead x) 0 with h | h | h
   ·have:=h2 h;rw [Int.sign_eq_neg_one_of_neg h,fY aG]
   ·exact absurd h hl
   ·have:=h1 h;rw [Int.sign_eq_one_of_pos h,eE aG]
  ·obtain⟨h1,h2⟩:=Iy hS ht hc h0 hb
   rcases Int.lt_trichotomy (lead x) 0 with h | h | h
   ·rw [Int.sign_eq_neg_one_of_neg h]
    split
    ·rw [if_pos (by assumption)]at h1;have:=h1 aa;rw [eE aG];rfl
    ·rw [if_neg (by assumption)]at h2;have:=h2 h;rw [fY aG]
   ·exact absurd h hl
   ·rw [Int.sign_eq_one_of_pos h]
    split
    ·rw [if_pos (by assumption)]at h2;have:=h2 aa;rw [fY aG]
    ·rw [if_neg (by assumption)]at h1;have:=h1 h;rw [eE aG]
end Pm
namespace Pm
open ZX hiding N W
variable {x y a b:Rat}{p f:ZX}{L:List ZX}
theorem jM.mul{η θ:Rat}(hη:0<η)(hθ:0<θ)(h:jM η x)(h':jM θ y):jM (η*θ) (x*y):=by
 have key:∀ {u v:Rat},η<=u->θ<=v->η*θ<=u*v:=fun {u v} h1 h2=>by have p1:=Rat.mul_le_mul_of_nonneg_left h2 (Rat.le_of_lt hη);have p2:=Rat.mul_le_mul_of_nonneg_right h1 (show 0<=v by grind);grind
 rcases h with h | h<;>rcases h' with h' | h'
 ·right;have:=key (show η <= -x by grind) (show θ <= -y by grind);grind
 ·left;have:=key (show η <= -x by grind) h';grind
 ·left;have:=key h (show θ <= -y by grind);grind
 ·right;exact key h h'
def Bg(a b:Rat)(p:ZX):Prop:=∃η:Rat,0<η ∧ ∀x,a<=x->x<=b->jM η (e x p)
theorem Bg.mul{a b:Rat}{p q:ZX}(h:Bg a b p)(h':Bg a b q):Bg a b (p*q):=by obtain⟨η,h1,h2⟩:=h;obtain⟨θ,h3,h4⟩:=h';exact⟨η*θ,Rat.mul_pos h1 h3,fun x hx hy=>by rw [iC];exact jM.mul h1 h3 (h2 x hx hy) (h4 x hx hy)⟩
theorem Bg.K{c:Int}(hc:c≠0):Bg a b (ZX.K c):=⟨1,ar,fun x _ _=>by rw [wN];exact sS hc⟩
theorem Bg.mono{c d:Rat}(h:Bg a b p)(hc:a<=c)(hd:d<=b):Bg c d p:=by obtain⟨η,h1,h2⟩:=h;exact⟨η,h1,fun x hx hy=>h2 x aG aG⟩
theorem DT(t:Rat)(n d:Int):e t (of [n,d])=n+d*t:=by rw [agG];simp only [qv];grind
theorem Bg.lin{n d:Int}(h:(0<(n:Rat)+d*a∧0<(n:Rat)+d*b)∨((n:Rat)+d*a<0∧(n:Rat)+d*b<0)):Bg a b (of [n,d]):=by
 have key:∀x,a<=x->x<=b->((n:Rat)+d*a<=n+d*x∧(n:Rat)+d*x<=n+d*b)∨((n:Rat)+d*b<=n+d*x∧(n:Rat)+d*x<=n+d*a):=fun x hx hy=>by
  by_cases hd:(0:Rat)<=d
  ·left;have:=Rat.mul_le_mul_of_nonneg_left hx hd;have:=Rat.mul_le_mul_of_nonneg_left hy hd;grind
  ·right;have:=Rat.mul_le_mul_of_nonneg_left hx (show (0:Rat) <= -d by grind);have:=Rat.mul_le_mul_of_nonneg_left hy (show (0:Rat) <= -d by grind);grind
 generalize (n:Rat)+d*a=u at *;generalize (n:Rat)+d*b=v at *
 rcases h with ⟨h1,h2⟩ | ⟨h1,h2⟩
 ·by_cases huv:u<=v
  ·exact⟨u,h1,fun x hx hy=>by rw [DT];have:=key x hx hy;right;grind⟩
  ·exact⟨v,h2,fun x hx hy=>by rw [DT];have:=key x hx hy;right;grind⟩
 ·by_cases huv:u<=v
  ·exact⟨-v,aG,fun x hx hy=>by rw [DT];have:=key x hx hy;left;grind⟩
  ·exact⟨-u,aG,fun x hx hy=>by rw [DT];have:=key x hx hy;left;grind⟩
theorem zA(l:List Int):∃S:Rat,0<=S ∧ ∀c∈l,Ab (c:Rat) S:=by
 induction l with
 | nil=>exact⟨0,Rat.le_refl,fun c hc=>by cases hc⟩
 | cons a l ih =>
  obtain⟨S,hS,h⟩:=ih;obtain⟨A,hA,ha,_⟩:=iU a a;refine⟨S+A,aG,fun c hc=>?_⟩
  rcases List.mem_cons.1 hc with rfl | hc
  ·exact ha.mono aG
  ·exact(h c hc).mono aG
theorem bR{B:Rat}(ha:Ab a B)(hb:Ab b B)(hx:a<=x)(hy:x<=b):Ab x B:=by obtain⟨h1,h2⟩:=ha;obtain⟨h3,h4⟩:=hb;exact⟨aG,aG⟩
theorem aan(a b:Rat)(p:ZX):∃W:Rat,0<W ∧ ∀x,a<=x->x<=b->Ab (e x p) W:=by obtain⟨B,hB,ha,hb⟩:=iU a b;obtain⟨S,hS,h⟩:=zA p.l;obtain⟨h3,_⟩:=nM hS hB p.l.length;exact⟨Cb S B p.l.length+1,aG,fun x hx hy=>(Ix hS hB (bR ha hb hx hy) p.l h).mono aG⟩
theorem Bg.dv(h:Bg a b p)(hd:ZX.dv f p):Bg a b f:=by
 obtain⟨c,hc,q,he⟩:=hd;obtain⟨η,h1,h2⟩:=(Bg.K (a:=a) (b:=b) hc).mul h;obtain⟨W,hW,h3⟩:=aan a b q;refine⟨η/W,(Rat.lt_div_iff hW).2 aG,fun x hx hy=>?_⟩;have h4:=h2 x hx hy;rw [he,iC]at h4;have h5:η/W*W=η:=Rat.div_mul_cancel (Rat.ne_of_gt hW);refine Classical.byContradiction fun hn=>?_;obtain⟨g1,g2⟩:=zr hn;obtain⟨k1,k2⟩:=h3 x hx hy;generalize η/W=θ at *;generalize e x q=u at *;generalize e x f=v at *
 have key:∀ {w z:Rat}, -W<=w->w<=W -> -θ<z->z<θ->w*z<θ*W:=fun {w z} a1 a2 a3 a4=>by
  by_cases hw:0<=w
  ·by_cases hz:0<=z
   ·have p1:=Rat.mul_le_mul_of_nonneg_right a2 hz;have p2:=Rat.mul_lt_mul_of_pos_left a4 hW;grind
   ·have p1:=Rat.mul_nonneg hw (show 0 <= -z by grind);grind
  ·by_cases hz:0<=z
   ·have p1:=Rat.mul_nonneg (show 0 <= -w by grind) hz;grind
   ·have p1:=Rat.mul_le_mul_of_nonneg_right (show -w<=W by grind) (show 0 <= -z by grind);have p2:=Rat.mul_lt_mul_of_pos_left (show -z<θ by grind) hW;grind
 rcases h4 with h4 | h4
 ·have:=key (w := -u) (z:=v) aG aG g1 g2;grind
 ·have:=key (w:=u) (z:=v) k1 k2 g1 g2;grind
theorem Bg.same(h:Bg a b f)(hx:a<=x)(pR:x<y)(hy:y<=b):bU (e y f)=bU (e x f)∧bU (e x f)≠0:=by
 obtain⟨η,hη,h2⟩:=h;obtain⟨B,hB,ha,hb⟩:=iU a b;obtain⟨S,hS,hc⟩:=zA f.l;obtain⟨h3,_⟩:=nM hS hB f.l.length;generalize hQ:Cb S B f.l.length=Q at *;have hQ1:0<Q+1:=aG;have hδ:η/(Q+1)*(Q+1)=η:=Rat.div_mul_cancel (Rat.ne_of_gt hQ1);have hδ0:0<η/(Q+1):=(Rat.lt_div_iff hQ1).2 aG;generalize η/(Q+1)=δ at *
 refine agH (B:=B) hδ0 (P:=fun x y=>a<=x->y<=b->bU (e y f)=bU (e x f)∧bU (e x f)≠0) (fun x y z h1 h2 p1 p2 hx hz=>?_) (fun x y hx hy pR hd hax hyb=>?_) (bR ha hb hx aG) (bR ha hb aG hy) pR hx hy
 ·obtain⟨q1,q2⟩:=p1 hx aG;obtain⟨q3,q4⟩:=p2 aG hz;exact⟨q3.trans q1,q2⟩
 ·refine fJ (h2 x hax aG) hη ?_;show ¬jM η (qv y f.l-qv x f.l);rw [mO];refine yu (Q:=Q) aG (hQ▸DP hS hB hx hy f.l hc) ?_;have:=Rat.mul_le_mul_of_nonneg_right hd h3;grind
theorem ur.bg(h:ur L f)(hb:Bg a b f)(fm:a<b):vt L a=vt L b:=by refine h.const fm (σ:=bU (e a f)) (.inr rfl) fun x hx hy=>?_;exact(hb.same Rat.le_refl hx hy).1
theorem ur.Rd(h:ur L f)(fm:a<b)(h0:e a f=0):∃c,a<c∧c<=b∧vt L a=vt L c:=by
 obtain⟨B,hB,ha,hb⟩:=iU a b;obtain⟨δ,hδ,hl⟩:=h.loc B hB
 by_cases hd:b-a<=δ
 ·refine⟨b,fm,Rat.le_refl,?_⟩;rw [hl.turns a b ha hb fm hd];have:ind f a b=0:=if_neg fun h=>h.1 h0;omega
 ·refine⟨a+δ,aG,aG,?_⟩;rw [hl.turns a (a+δ) ha (bR ha hb aG aG) aG aG];have:ind f a (a+δ)=0:=if_neg fun h=>h.1 h0;omega
end Pm
namespace Go.Proofs.YtiobceocpabjdaaGreat
open Go Pm List
variable {n d m e:Int}{k:Nat}{p q:Rat}
abbrev T2(n d:Int):PV:=.ag [.bool (decide (n<0)),us (aI LL n.natAbs), .bool (decide (d<0)),us (aI LL d.natAbs)]
abbrev RT(q:Rat):PV:=T2 q.num q.den
theorem aao(n d:Int):((bK [n,d]:Nat):Int)=Int.gcd n d:=by simp only [bK,foldl_cons,foldl_nil,Nat.gcd_zero_left];rfl
theorem agK(h:d≠0):(dw n d).num=(if d<0 then -n else n)/(bK [n,d]:Nat)∧((dw n d).den:Int)=(if d<0 then -d else d)/(bK [n,d]:Nat):=by
 have e:∀m k:Int,(m=n∨m = -n)->(k=d∨k = -d)->((Int.gcd m k:Nat):Int)=(bK [n,d]:Nat):=fun m k hm hk=>by rw [aao];rcases hm with rfl | rfl<;>rcases hk with rfl | rfl<;>simp
 rw [o9 n d h,pg n d h]
 constructor
 ·rw [e _ _ (by split<;>simp) (by split<;>simp)]
 ·rw [e _ _ (by split<;>simp) (by split<;>simp)]
theorem pC(hn:sz LL n<1099511627770)(hd:sz LL d<1099511627770)(h0:d≠0):aj 169 [I n,I d] (RT (dw n d)):=by
 have sn:Sz n:=by show _<_;omega
 have sd:Sz d:=by show _<_;omega
 have g0:=HW [qA n,qA d] 1099511627770 ar (fun c hc=>by
  simp only [mem_cons,not_mem_nil,or_false]at hc
  rcases hc with rfl | rfl
  ·exact⟨fy fV _,by unfold sz at hn;show(aI LL n.natAbs).length<=_;omega⟩
  ·exact⟨fy fV _,by unfold sz at hd;show(aI LL d.natAbs).length<=_;omega⟩) av
 rw [show [qA n,qA d].map gv = [n,d]by simp [Hu]]at g0;obtain⟨q1,q2⟩:=agK (n:=n) h0;have gd1:((bK [n,d]:Nat):Int)∣n:=iB _ n av;have gd2:((bK [n,d]:Nat):Int)∣d:=iB _ d av;have gne:((bK [n,d]:Nat):Int)≠0:=by have:=H4 (x:=[n,d]) (c:=d) av h0;omega
 have gle:((bK [n,d]:Nat):Int).natAbs<=d.natAbs:=Nat.le_of_dvd aa (Int.natAbs_dvd_natAbs.2 gd2);have gsz:sz LL ((bK [n,d]:Nat):Int)<1099511627774:=Nat.lt_of_le_of_lt (cY fV gle) aa;have nn:∀v,rB (aI LL v)↔rB (aI LL v):=fun _=>Iff.rfl;have neg:∀v:Int,Sz v->aj 148 [I v] (I (-v)):=fun v hv=>by have:=AR (decide (v<0)) (aI LL v.natAbs) hv.Nc;rw [show iv (decide (v<0)) (aI LL v.natAbs)=v from Hu v]at this;exact this
 generalize hg:((bK [n,d]:Nat):Int)=g at *;have ex:∀v:Int,g∣v->sz LL v<1099511627774->aj 234 [I v,I g] (.cW [I (v/g),ae 0]):=fun v hv hs=>by have:=Fc hs gsz gne;rw [if_pos (Int.emod_eq_zero_of_dvd hv)]at this;exact this
 have n1:=neg n sn;have n2:=neg d sd;have anm:∀v:Int,sz LL (-v)=sz LL v:=fun v=>by unfold sz;rw [Int.natAbs_neg]
 have e1:=ex (if d<0 then -n else n) (by split;exact(Int.dvd_neg.2 gd1);exact gd1) (by split;rw [anm];omega;omega);have e2:=ex (if d<0 then -d else d) (by split;exact(Int.dvd_neg.2 gd2);exact gd2) (by split;rw [anm];omega;omega);rw [<-q1]at e1;rw [<-q2]at e2;have eg:Pg [qA n,qA d] = .sl [[.bool (decide (n<0)),us (aI LL n.natAbs)],[.bool (decide (d<0)),us (aI LL d.natAbs)]]:=rfl;rw [eg]at g0;show aj _ _ (T2 (dw n d).num (dw n d).den);generalize (dw n d).num=rn,((dw n d).den:Int)=rd at *;apply bL [(0,I n),(1,I d)] Tryz.func169;apply fk [2,3,4] g0 [2,3,4,5];generalize wX:(if d<0 then -n else n)=n',MQ:(if d<0 then -d else d)=d' at *
 refine W.fR (fun σ=>aQ σ [(2, .ptr 2 0 0 0),(3, .ptr 3 1 0 0),(4, .ptr 4 2 0 0),(5, .ptr 5 3 0 0)] fun rows clk=>rows 2=some ⟨0,38,2,[ie n']⟩∧rows 3=some ⟨1,38,2,[ie d']⟩∧rows 4=some ⟨2,52,4,[[.bool false, .nil, .bool false, .nil]]⟩∧rows 5=some ⟨3,38,2,[ie g]⟩) ?_ ?_
 ·apply fi [2,3,4,5,11]<;>intro h
  ·have h:d<0:=au h;rw [if_pos h]at wX MQ;subst wX MQ;refine W.Dd fun K hK=>?_;apply eO n1 n2;apply (cp)
   (try (refine aM (of_decide_eq_true bX) ?_));(try simp (maxSteps:=4000000) (disch:=omega) [gw]);(repeat rw [if_pos bX]);(try simp (maxSteps:=4000000) (disch:=omega) [gw])
   (try (refine aM (of_decide_eq_true bX) ?_));(try simp (maxSteps:=4000000) (disch:=omega) [gw]);(repeat rw [if_pos bX]);(try simp (maxSteps:=4000000) (disch:=omega) [gw])
   exact hK _ ⟨_,ak _ [2,3,4,5],_,_,rfl,av,av,av,av⟩
  ·have h:¬d<0:=au h;rw [if_neg h]at wX MQ;subst wX MQ;apply W.skip;exact⟨_,ak _ [2,3,4,5],_,_,rfl,av,av,av,av⟩
 rintro _ ⟨rows,clk,rfl,bE,bA,cN,dj⟩;simp only [ie]at bE bA dj;apply lG bE dj e1;apply u6 bE [2,3,4,5];apply lG bA dj e2;apply u6 bA [2,3,4];apply fj cN [4];exact gK
theorem DU(d:Int):aj 124 [I d] (.bool (decide (d=0))):=by
 have:=Hv (decide (d<0)) (aI LL d.natAbs)
 rw [show decide ((aI LL d.natAbs).length=0)=decide (d=0)from by
  by_cases h:d=0
  ·subst h;rfl
  ·have:aI LL d.natAbs ≠ []:=fun h2=>h (by have:=jT fV d.natAbs;rw [h2]at this;simp [V]at this;omega);have h3:=length_pos_iff.2 this;simp [h];omega]at this
 exact this
theorem Lu(n:Int):dw n 0=dw n 1:=by rw [kO,dw,if_pos rfl]
theorem mm(hn:sz LL n<1099511627770)(hd:sz LL d<1099511627770):aj 147 [T2 n d] (RT (dw n d)):=by
 have sn:Sz n:=by show _<_;omega
 have sd:Sz d:=by show _<_;omega
 have n1:=E3 sn;have n2:=E3 sd;have z1:=DU d;have o1:=AU 1 ar ar
 obtain⟨e,he,hed⟩:∃e,e=(if d=0 then 1 else d)∧dw n e=dw n d:=by
  refine⟨_,rfl,?_⟩
  split
  ·rename_i h;rw [h,Lu]
  ·rfl
 have GJ:sz LL e<1099511627770:=by
  rw [he]
  split
  ·exact Nat.lt_of_le_of_lt (dp (k:=1) fV ar) ar
  ·exact hd
 have Bw:e≠0:=by
  rw [he]
  split
  ·decide
  ·assumption
 have l1:=pC (n:=n) (d:=e) hn GJ Bw;rw [hed]at l1;show aj _ _ (T2 (dw n d).num (dw n d).den)
 replace l1:aj 169 [I n,I e] (T2 (dw n d).num (dw n d).den):=l1
 clear hed GJ Bw;generalize (dw n d).num=rn,((dw n d).den:Int)=rd at *;apply bL [(0,T2 n d)] Tryz.func147;apply fk [1,2] n2 [1,2,3]
 refine W.fR (fun σ=>aQ σ [(1, .ptr 1 0 0 0),(2, .ptr 2 1 0 0),(3, .ptr 3 2 0 0)] fun rows clk=>rows 1=some ⟨0,52,4,[[.bool (decide (n<0)),us (aI LL n.natAbs), .bool (decide (d<0)),us (aI LL d.natAbs)]]⟩∧rows 2=some ⟨1,52,4,[[.bool false, .nil, .bool false, .nil]]⟩∧rows 3=some ⟨2,38,2,[[.bool (decide (e<0)),us (aI LL e.natAbs)]]⟩) ?_ ?_
 ·apply fH z1 [1,2,3,8]<;>intro h
  ·have h:d=0:=au h;rw [if_pos h]at he;subst he;refine u9 o1 fun K hK=>?_;exact hK _ ⟨_,ak _ [1,2,3],_,_,rfl,av,av,av⟩
  ·have h:¬d=0:=au h;rw [if_neg h]at he;subst he;apply W.skip;exact⟨_,ak _ [1,2,3],_,_,rfl,av,av,av⟩
 rintro _ ⟨rows,clk,rfl,tB,bE,bA⟩;apply W.sd;apply iI tB n1;apply iI bA l1;apply dB bE
 (try (refine aM (of_decide_eq_true bX) ?_));(try simp (maxSteps:=4000000) (disch:=omega) [gw,bE]);(repeat rw [if_pos bX]);(try simp (maxSteps:=4000000) (disch:=omega) [gw,bE])
 exact qi [2]
theorem xv(hn:sz LL n<=k)(hd:sz LL d<=k)(hm:sz LL m<=k)(he:sz LL e<=k)(hk:k<=500000000000)(hp:dw n d=p)(hq:dw m e=q)(sp:sz LL p.num<=k∧sz LL (p.den:Int)<=k)(sq:sz LL q.num<=k∧sz LL (q.den:Int)<=k) :
  aj 165 [T2 n d,T2 m e] (.cW [I (p.num*q.den),I (q.num*p.den),I ((p.den:Int)*q.den)]):=by
 have n1:=mm (n:=n) (d:=d) aa aa;have n2:=mm (n:=m) (d:=e) aa aa;rw [hp]at n1;rw [hq]at n2;have z:∀ {v:Int},sz LL v<=k->Sz v:=fun h=>by show _<_;omega
 have m1:=vC (z sp.1) (z sq.2);have m2:=vC (z sq.1) (z sp.2);have m3:=vC (z sp.2) (z sq.2)
 replace n1:aj 147 [T2 n d] (T2 p.num p.den):=n1
 replace n2:aj 147 [T2 m e] (T2 q.num q.den):=n2
 clear sp sq hp hq;generalize p.num*(q.den:Int)=x1,q.num*(p.den:Int)=x2,(p.den:Int)*(q.den:Int)=x3 at *;generalize p.num=pn,(p.den:Int)=pd,q.num=qn,(q.den:Int)=qd at *;apply bL [(0,T2 n d),(1,T2 m e)] Tryz.func165;apply gr [2,3,4,5,6];apply eO n1 n2;apply (cp)
 (try (refine aM (of_decide_eq_true bX) ?_));(try simp (maxSteps:=4000000) (disch:=omega) [gw]);(repeat rw [if_pos bX]);(try simp (maxSteps:=4000000) (disch:=omega) [gw])
 (try (refine aM (of_decide_eq_true bX) ?_));(try simp (maxSteps:=4000000) (disch:=omega) [gw]);(repeat rw [if_pos bX]);(try simp (maxSteps:=4000000) (disch:=omega) [gw])
 apply c9 [2,3,4,5,6];apply W.sd;simp (maxSteps:=4000000) (disch:=omega) [gw];apply cT m1;simp (maxSteps:=4000000) (disch:=omega) [gw];apply cT m2;simp (maxSteps:=4000000) (disch:=omega) [gw];apply cT m3;simp (maxSteps:=4000000) (disch:=omega) [gw]
 (try (refine aM (of_decide_eq_true bX) ?_));(try simp (maxSteps:=4000000) (disch:=omega) [gw]);(repeat rw [if_pos bX]);(try simp (maxSteps:=4000000) (disch:=omega) [gw])
 (try (refine aM (of_decide_eq_true bX) ?_));(try simp (maxSteps:=4000000) (disch:=omega) [gw]);(repeat rw [if_pos bX]);(try simp (maxSteps:=4000000) (disch:=omega) [gw])
 (try (refine aM (of_decide_eq_true bX) ?_));(try simp (maxSteps:=4000000) (disch:=omega) [gw]);(repeat rw [if_pos bX]);(try simp (maxSteps:=4000000) (disch:=omega) [gw])
 exact qi [4,5,6]
theorem cX(hn:sz LL n<=k)(hd:sz LL d<=k)(hm:sz LL m<=k)(he:sz LL e<=k)(hk:k<=500000000000)(hp:dw n d=p)(hq:dw m e=q)(sp:sz LL p.num<=k∧sz LL (p.den:Int)<=k)(sq:sz LL q.num<=k∧sz LL (q.den:Int)<=k) :
  aj 86 [T2 n d,T2 m e] (ae (dc (p.num*q.den) (q.num*p.den))):=by
 have c1:=xv hn hd hm he hk hp hq sp sq;have g1:=ct (b:=LL) fV sp.1 sq.2;have g2:=ct (b:=LL) fV sq.1 sp.2;have w1:=Ng (x:=p.num*q.den) (y:=q.num*p.den) (by show _<_;omega) (by show _<_;omega);clear sp sq hp hq g1 g2;generalize dc (p.num*(q.den:Int)) (q.num*(p.den:Int))=r at *;generalize p.num*(q.den:Int)=x1,q.num*(p.den:Int)=x2,(p.den:Int)*(q.den:Int)=x3 at *;apply bL [(0,T2 n d),(1,T2 m e)] Tryz.func86;apply fk [2,3] c1 [5,6];exact yN w1 [4]
theorem vX(hn:sz LL n<1099511627770)(hd:sz LL d<1099511627770):aj 90 [T2 n d, .sl []] (RT (dw n d)):=by
 have n1:=mm hn hd;show aj _ _ (T2 (dw n d).num (dw n d).den)
 replace n1:aj 147 [T2 n d] (T2 (dw n d).num (dw n d).den):=n1
 generalize (dw n d).num=rn,((dw n d).den:Int)=rd at *;apply bL [(0,T2 n d),(1, .sl [])] Tryz.func90;apply fk [1,2,4] n1 [1,4,5];apply dU [4,5,10,11,12]
 refine W.aO (fun k σ=>aQ σ [(4, .ptr 4 1 0 0),(5, .ptr 5 2 0 0),(11,ae 0),(12,ae 0)] fun rows clk=>rows 4=some ⟨1,52,4,[[.bool false, .nil, .bool false, .nil]]⟩∧rows 5=some ⟨2,52,4,[[.bool (decide (rn<0)),us (aI LL rn.natAbs), .bool (decide (rd<0)),us (aI LL rd.natAbs)]]⟩) 0 ?_ ?_
 ·exact⟨_,ak _ [4,5,11,12],_,_,rfl,av,av⟩
 rintro k _ ⟨rows,clk,rfl,cN,dj⟩
 apply ef [4,5,11,12,13]<;>intro h
 ·simp at h
 ·apply (iq);exact AB cN dj [4]
theorem Re(hn:sz LL n<1099511627770)(hd:sz LL d<1099511627770):aj 166 [T2 n d] (RT (dw n d)):=by
 have n1:=vX hn hd;show aj _ _ (T2 (dw n d).num (dw n d).den)
 replace n1:aj 90 [T2 n d, .sl []] (T2 (dw n d).num (dw n d).den):=n1
 generalize (dw n d).num=rn,((dw n d).den:Int)=rd at *;apply bL [(0,T2 n d)] Tryz.func166;apply fk [1,2] n1 [2];exact gK
end Go.Proofs.YtiobceocpabjdaaGreat
