import Derived.Test.YtiobceocpabjdaaGreatKaf
import Derived.Test.YtiobceocpabjdaaGreatKal
set_option linter.unusedSimpArgs false
set_option linter.unusedVariables false
namespace Pm
structure ZX where
 l:List Int
 c:Cn l
namespace ZX
theorem ext{x y:ZX}(h:∀t,V t x.l=V t y.l):x=y:=by
 obtain⟨x,hx⟩:=x
 obtain⟨y,hy⟩:=y
 have:=Cn.ext hx hy h
 subst this
 rfl
def of(x:List Int):ZX:=⟨aM x,Cn.cut x⟩
def K(c:Int):ZX:=of [c]
instance:Zero ZX:=⟨⟨[],Cn.nil⟩⟩
instance:One ZX:=⟨K 1⟩
instance:Add ZX:=⟨fun x y=>⟨gB x.l y.l,Cn.gB _ _⟩⟩
instance:Mul ZX:=⟨fun x y=>⟨bJ x.l y.l,Cn.bJ _ _⟩⟩
instance:Neg ZX:=⟨fun x=>⟨fK x.l,Cn.fK _⟩⟩
instance:Sub ZX:=⟨fun x y=>⟨eE x.l y.l,Cn.eE _ _⟩⟩
def pow(x:ZX):Nat→ZX
 | 0=>1
 | n+1=>pow x n*x
instance:HPow ZX Nat ZX:=⟨pow⟩
instance:NatCast ZX:=⟨fun n=>K n⟩
instance (n:Nat):OfNat ZX n:=⟨K n⟩
instance:IntCast ZX:=⟨fun n=>K n⟩
instance:SMul Nat ZX:=⟨fun n x=>K n*x⟩
instance:SMul Int ZX:=⟨fun n x=>K n*x⟩
variable {t:Int}
theorem MR(x:List Int):V t (of x).l=V t x:=cE x
theorem sE(c:Int):V t (K c).l=c:=by rw [K,MR];simp [V]
theorem rR:V t (0:ZX).l=0:=sE 0
theorem CO:V t (1:ZX).l=1:=sE 1
theorem j3(x y:ZX):V t (x+y).l=V t x.l+V t y.l:=oT _ _
theorem dD(x y:ZX):V t (x*y).l=V t x.l*V t y.l:=cQ _ _
theorem CP(x:ZX):V t (-x).l = -V t x.l:=yK _
theorem aoY(x y:ZX):V t (x-y).l=V t x.l-V t y.l:=gO _ _
theorem PF(x:ZX):∀n:Nat,V t (x^n).l=V t x.l^n
 | 0=>by show V t (1:ZX).l=_;rw [CO,Int.pow_zero]
 | n+1=>by show V t ((x^n)*x).l=_;rw [dD,PF x n,Int.pow_succ]
theorem PG(n:Nat):V t (OfNat.ofNat n:ZX).l=n:=sE n
theorem afe(n:Int):V t (n:ZX).l=n:=sE n
theorem PH(n:Int)(x:ZX):V t (n • x).l=n*V t x.l:=by show V t (K n*x).l=_;rw [dD,sE]
instance:Lean.Grind.CommRing ZX where
 add_zero x:=ext fun t=>by rw [j3,rR];omega
 add_comm x y:=ext fun t=>by rw [j3,j3];omega
 add_assoc x y z:=ext fun t=>by simp only [j3];omega
 mul_assoc x y z:=ext fun t=>by simp only [dD];grind
 mul_one x:=ext fun t=>by rw [dD,CO];omega
 one_mul x:=ext fun t=>by rw [dD,CO];omega
 left_distrib x y z:=ext fun t=>by simp only [dD,j3];grind
 right_distrib x y z:=ext fun t=>by simp only [dD,j3];grind
 zero_mul x:=ext fun t=>by rw [dD,rR];omega
 mul_zero x:=ext fun t=>by rw [dD,rR];omega
 pow_zero x:=ext fun t=>by rw [PF,CO,Int.pow_zero]
 pow_succ x n:=ext fun t=>by rw [dD,PF,PF,Int.pow_succ]
 ofNat_succ n:=ext fun t=>by rw [j3,PG,PG,CO];omega
 ofNat_eq_natCast n:=rfl
 nsmul_eq_natCast_mul n x:=rfl
 neg_add_cancel x:=ext fun t=>by rw [j3,CP,rR];omega
 sub_eq_add_neg x y:=ext fun t=>by rw [aoY,j3,CP];omega
 neg_zsmul n x:=ext fun t=>by rw [PH,CP,PH];grind
 zsmul_natCast_eq_nsmul n x:=rfl
 intCast_ofNat n:=rfl
 intCast_neg n:=ext fun t=>by rw [afe,CP,afe]
 mul_comm x y:=ext fun t=>by rw [dD,dD,Int.mul_comm]
def N(x:ZX):Nat:=x.l.length
theorem aF{x:ZX}:x≠0↔0<N x:=by
 constructor
 ·intro h
  rcases Nat.eq_zero_or_pos (N x)with h1 | h1
  ·exfalso
   apply h
   have:x.l = []:=List.eq_nil_of_length_eq_zero h1
   exact ext fun t=>by rw [this,rR];rfl
  ·exact h1
 ·rintro h rfl
  have:N (0:ZX)=0:=by decide
  omega
theorem X1:N (0:ZX)=0:=by decide
theorem mP{x y:ZX}(hx:x≠0)(hy:y≠0):N (x*y)=N x+N y-1:=iS x.c y.c (aF.1 hx) (aF.1 hy)
theorem o9{x y:ZX}(hx:x≠0)(hy:y≠0):x*y≠0:=by
 rw [aF,mP hx hy]
 have:=aF.1 hx
 have:=aF.1 hy
 omega
theorem pA{x y:ZX}(h:x*y=0):x=0∨y=0:=by
 by_cases hx:x=0
 ·exact .inl hx
 ·by_cases hy:y=0
  ·exact .inr hy
  ·exact absurd h (o9 hx hy)
theorem TA(x y:ZX):x*y=y*x:=by grind
theorem cancel{x y z:ZX}(hz:z≠0)(h:z*x=z*y):x=y:=by
 have h1:z*(x-y)=0:=by grind
 rcases pA h1 with h2 | h2
 ·exact absurd h2 hz
 ·grind
theorem tI{c:Int}(h:c≠0):K c≠0:=fun e=>h (by
 have:=sE (t:=0) c
 rw [e,rR]at this;omega)
theorem N_K{c:Int}(h:c≠0):N (K c)=1:=by
 show(aM [c]).length=1
 rw [show aM [c] = [c]from gV h []];rfl
theorem mQ(c d:Int):K c*K d=K (c*d):=ext fun t=>by rw [dD,sE,sE,sE]
theorem lM{x:ZX}(h:N x=1):∃c,c≠0∧x=K c:=by
 obtain⟨l,hl⟩:=x
 match l,hl,h with
 | [c],hl,_ =>
  have hc:c≠0:=by
   have:=cM hl (by simp)
   simpa [lead,pS]using this
  exact⟨c,hc,ext fun t=>by rw [sE];simp [V]⟩
theorem kH{c:Int}{x y q:ZX}(hc:c≠0)(hx:x≠0)(h:K c*x=q*y):q≠0∧y≠0:=by
 have h1:=o9 (tI hc) hx
 rw [h]at h1
 constructor
 ·rintro rfl;apply h1;grind
 ·rintro rfl;apply h1;grind
theorem zC:(1:ZX)≠0:=tI (by decide)
theorem CQ:N (1:ZX)=1:=N_K (by decide)
def dv(y x:ZX):Prop:=∃c:Int,c≠0 ∧ ∃q,K c*x=q*y
theorem dv.refl(x:ZX):dv x x:=⟨1,by decide,K 1,rfl⟩
theorem dv.zero(x:ZX):dv x 0:=⟨1,by decide,0,by grind⟩
theorem dv.trans{x y z:ZX}(h1:dv x y)(h2:dv y z):dv x z:=by
 obtain⟨c,hc,q,h1⟩:=h1
 obtain⟨d,hd,r,h2⟩:=h2
 exact⟨c*d,Int.mul_ne_zero hc hd,q*r,by rw [←mQ];grind⟩
theorem dv.mul_right{x y:ZX}(h:dv x y)(z:ZX):dv x (y*z):=by
 obtain⟨c,hc,q,h⟩:=h
 exact⟨c,hc,q*z,by grind⟩
theorem dv.mul_left{x y:ZX}(h:dv x y)(z:ZX):dv x (z*y):=by
 obtain⟨c,hc,q,h⟩:=h
 exact⟨c,hc,q*z,by grind⟩
theorem dv.mul{x y z w:ZX}(h1:dv x y)(h2:dv z w):dv (x*z) (y*w):=by
 obtain⟨c,hc,q,h1⟩:=h1
 obtain⟨d,hd,r,h2⟩:=h2
 exact⟨c*d,Int.mul_ne_zero hc hd,q*r,by rw [←mQ];grind⟩
theorem dv.add{x y z:ZX}(h1:dv x y)(h2:dv x z):dv x (y+z):=by
 obtain⟨c,hc,q,h1⟩:=h1
 obtain⟨d,hd,r,h2⟩:=h2
 exact⟨c*d,Int.mul_ne_zero hc hd,K d*q+K c*r,by rw [←mQ];grind⟩
theorem dv.IY{x y:ZX}{c:Int}(hc:c≠0)(h:dv x (K c*y)):dv x y:=by
 obtain⟨d,hd,q,h⟩:=h
 exact⟨d*c,Int.mul_ne_zero hd hc,q,by rw [←mQ];grind⟩
theorem dv.pB{x y:ZX}(h:dv x y)(hy:y≠0):N x≤N y:=by
 obtain⟨c,hc,q,h⟩:=h
 obtain⟨h1,h2⟩:=kH hc hy h
 have h3:N (K c*y)=N y:=by rw [mP (tI hc) hy,N_K hc];have:=aF.1 hy;omega
 rw [h,mP h1 h2]at h3
 have:=aF.1 h1
 omega
theorem dv.ne{x y:ZX}(h:dv x y)(hy:y≠0):x≠0:=by
 obtain⟨c,hc,q,h⟩:=h
 exact(kH hc hy h).2
theorem w5{x:ZX}(h:dv 0 x):x=0:=by
 obtain⟨c,hc,q,h⟩:=h
 have h2:K c*x=0:=by grind
 exact(pA h2).resolve_left (tI hc)
theorem aoZ{c:Int}(hc:c≠0)(x:ZX):dv (K c) x:=⟨c,hc,x,by grind⟩
theorem acX{x y:ZX}(h:dv x y)(hy:y≠0)(hN:N x=N y):dv y x:=by
 obtain⟨c,hc,q,h⟩:=h
 obtain⟨h1,h2⟩:=kH hc hy h
 have h3:N (K c*y)=N y:=by rw [mP (tI hc) hy,N_K hc];have:=aF.1 hy;omega
 rw [h,mP h1 h2]at h3
 have h4:=aF.1 h1
 have h5:=aF.1 h2
 obtain⟨d,hd,rfl⟩:=lM (x:=q) (by omega)
 exact⟨d,hd,K c,by rw [h]⟩
theorem Y3(a:ZX){b:ZX}(hb:b≠0):∃c:Int,c≠0 ∧ ∃q r,K c*a=q*b+r∧N r<N b:=by
 have h0:=aF.1 hb
 obtain⟨c1,c2⟩:=yN (b:=b.l) a.c
 refine⟨lead b.l^iH a.l b.l,Int.pow_ne_zero (cM b.c h0),⟨_,c1⟩,⟨_,c2⟩,ext fun t=>?_,?_⟩
 ·rw [dD,sE,j3,dD]
  exact(XE t a.l b.l).symm
 ·have:=EC (a:=a.l) h0
  show(vK a.l b.l).2.length<b.l.length
  have:0<b.l.length:=h0
  omega
structure n9(g a b:ZX):Prop where
 l:dv g a
 r:dv g b
 uv:∃c:Int,c≠0 ∧ ∃u v,K c*g=u*a+v*b
theorem n9.least{g a b d:ZX}(h:n9 g a b)(ha:dv d a)(hb:dv d b):dv d g:=by
 obtain⟨c,hc,u,v,e⟩:=h.uv
 refine dv.IY hc ?_
 rw [e]
 exact(ha.mul_left u).add (hb.mul_left v)
theorem n9.ne{g a b:ZX}(h:n9 g a b)(ha:a≠0∨b≠0):g≠0:=by
 rintro rfl
 rcases ha with h1 | h1
 ·exact h1 (w5 h.l)
 ·exact h1 (w5 h.r)
theorem n9.zero(a:ZX):n9 a a 0:=⟨dv.refl a,dv.zero a,1,by decide,1,0,by show(1:ZX)*a=_;grind⟩
theorem n9.symm{g a b:ZX}(h:n9 g a b):n9 g b a:=by
 obtain⟨c,hc,u,v,e⟩:=h.uv
 exact⟨h.r,h.l,c,hc,v,u,by grind⟩
theorem n9.step{g a b q r:ZX}{c:Int}(hc:c≠0)(e:K c*a=q*b+r)(h:n9 g b r):n9 g a b:=by
 obtain⟨d,hd,u,v,e2⟩:=h.uv
 refine⟨dv.IY hc ?_,h.l,d,hd,v*K c,u-v*q,by grind⟩
 rw [e]
 exact(h.l.mul_left q).add h.r
theorem iJ:∀(n:Nat) (a b:ZX),N b≤n → ∃g,n9 g a b
 | 0,a,b,h=>by
  have:b=0:=Classical.byContradiction fun hb=>by have:=aF.1 hb;omega
  subst this
  exact⟨a,n9.zero a⟩
 | n+1,a,b,h=>by
  by_cases hb:b=0
  ·subst hb;exact⟨a,n9.zero a⟩
  ·obtain⟨c,hc,q,r,e,hr⟩:=Y3 a hb
   obtain⟨g,hg⟩:=iJ n b r (by omega)
   exact⟨g,hg.step hc e⟩
structure oA(p:ZX):Prop where
 deg:2≤N p
 irr:∀d,dv d p→N d=1∨N d=N p
theorem oA.ne{p:ZX}(h:oA p):p≠0:=aF.2 (by have:=h.deg;omega)
theorem oA.aff{p a b:ZX}(hp:oA p)(h:dv p (a*b)):dv p a∨dv p b:=by
 obtain⟨g,hg⟩:=iJ _ p a (Nat.le_refl _)
 rcases hp.irr g hg.l with h1 | h1
 ·right
  obtain⟨k,hk,rfl⟩:=lM h1
  obtain⟨c,hc,u,v,e⟩:=hg.uv
  refine dv.IY (c:=c*k) (Int.mul_ne_zero hc hk) ?_
  have e2:K (c*k)*b=(u*b)*p+v*(a*b):=by rw [←mQ];grind
  rw [e2]
  exact((dv.refl p).mul_left _).add (h.mul_left v)
 ·left
  exact(acX hg.l hp.ne h1).trans hg.r
theorem zD:∀(n:Nat) (a:ZX),N a≤n→2≤N a → ∃p,oA p∧dv p a
 | 0,a,h,h2=>by omega
 | n+1,a,h,h2=>by
  by_cases hi:∃d,dv d a∧N d≠1∧N d≠N a
  ·obtain⟨d,hd,h3,h4⟩:=hi
   have h5:=hd.pB (aF.2 (by omega))
   have h6:=aF.1 (hd.ne (aF.2 (by omega)))
   obtain⟨p,hp,hpd⟩:=zD n d (by omega) (by omega)
   exact⟨p,hp,hpd.trans hd⟩
  ·refine⟨a,⟨h2,fun d hd=>?_⟩,dv.refl a⟩
   by_cases h3:N d=1
   ·exact .inl h3
   ·by_cases h4:N d=N a
    ·exact .inr h4
    ·exact absurd ⟨d,hd,h3,h4⟩ hi
theorem pow_succ'(p:ZX)(k:Nat):p^(k+1)=p^k*p:=rfl
theorem gJ(p:ZX):p^0=1:=rfl
theorem pow_add'(p:ZX)(j:Nat):∀k,p^(j+k)=p^j*p^k
 | 0=>by rw [Nat.add_zero,gJ];grind
 | k+1=>by rw [←Nat.add_assoc,pow_succ',pow_succ',pow_add' p j k];grind
theorem EU{p:ZX}(hp:p≠0):∀k:Nat,p^k≠0
 | 0=>zC
 | k+1=>o9 (EU hp k) hp
theorem afg{p:ZX}(hp:oA p):∀k:Nat,k<N (p^k)
 | 0=>by rw [gJ,CQ];omega
 | k+1=>by
  rw [pow_succ',mP (EU hp.ne k) hp.ne]
  have:=afg hp k
  have:=hp.deg
  omega
theorem Y4{p:ZX}{j k:Nat}(h:j≤k):dv (p^j) (p^k):=by
 obtain⟨d,rfl⟩:=Nat.exists_eq_add_of_le h
 rw [pow_add']
 exact(dv.refl _).mul_right _
theorem TB{p a:ZX}(hp:oA p)(ha:a≠0):∃k,dv (p^k) a∧¬dv (p^(k+1)) a:=by
 have key:∀n,(∃k,k≤n∧dv (p^k) a∧¬dv (p^(k+1)) a)∨dv (p^(n+1)) a:=by
  intro n
  induction n with
  | zero =>
   by_cases h:dv (p^1) a
   ·exact .inr h
   ·exact .inl ⟨0,Nat.le_refl _,aoZ (by decide) a,h⟩
  | succ n ih =>
   rcases ih with ⟨k,h1,h2⟩ | ih
   ·exact .inl ⟨k,by omega,h2⟩
   ·by_cases h:dv (p^(n+2)) a
    ·exact .inr h
    ·exact .inl ⟨n+1,Nat.le_refl _,ih,h⟩
 rcases key (N a)with ⟨k,_,h⟩ | h
 ·exact⟨k,h⟩
 ·have h1:=h.pB ha
  have h2:=afg hp (N a+1)
  omega
open Classical in
noncomputable def mu(p a:ZX):Nat:=if h:∃k,dv (p^k) a∧¬dv (p^(k+1)) a then h.choose else 0
theorem PJ{p a:ZX}(hp:oA p)(ha:a≠0):dv (p^mu p a) a∧¬dv (p^(mu p a+1)) a:=by
 have h:=TB hp ha
 unfold mu
 rw [dif_pos h]
 exact h.choose_spec
theorem mR{p a:ZX}(hp:oA p)(ha:a≠0){k:Nat}:k≤mu p a↔dv (p^k) a:=by
 obtain⟨h1,h2⟩:=PJ hp ha
 constructor
 ·intro h;exact(Y4 h).trans h1
 ·intro h
  rcases Nat.lt_or_ge (mu p a) k with h3 | h3
  ·exact absurd ((Y4 h3).trans h) h2
  ·exact h3
theorem zE{p a:ZX}(hp:oA p)(ha:a≠0):∃c:Int,c≠0 ∧ ∃b,b≠0∧K c*a=b*p^mu p a∧¬dv p b:=by
 obtain⟨⟨c,hc,b,e⟩,h2⟩:=PJ hp ha
 refine⟨c,hc,b,(kH hc ha e).1,e,fun h=>h2 (dv.IY hc ?_)⟩
 rw [e,pow_succ']
 have:=h.mul (dv.refl (p^mu p a))
 rw [show p^mu p a*p=p*p^mu p a by grind]
 exact this
theorem uN{p a b:ZX}(hp:oA p)(ha:a≠0){c:Int}(hc:c≠0){k:Nat}(e:K c*a=b*p^k)(h:¬dv p b):mu p a=k:=by
 have h1:k≤mu p a:=(mR hp ha).2 ⟨c,hc,b,e⟩
 rcases Nat.lt_or_ge k (mu p a)with h2 | h2
 ·exfalso
  obtain⟨d,hd,r,e2⟩:=(mR hp ha).1 h2
  apply h
  refine⟨d,hd,K c*r,ZX.cancel (EU hp.ne k) ?_⟩
  rw [pow_succ']at e2
  grind
 ·omega
theorem zF{p a b:ZX}(hp:oA p)(ha:a≠0)(hb:b≠0):mu p (a*b)=mu p a+mu p b:=by
 obtain⟨c,hc,x,_,e1,h1⟩:=zE hp ha
 obtain⟨d,hd,y,_,e2,h2⟩:=zE hp hb
 refine uN (b:=x*y) hp (o9 ha hb) (Int.mul_ne_zero hc hd) ?_ fun h=>?_
 ·rw [pow_add',←mQ];grind
 ·rcases hp.aff h with h3 | h3
  ·exact h1 h3
  ·exact h2 h3
theorem Y5{p:ZX}(hp:oA p){c:Int}(hc:c≠0):mu p (K c)=0:=by
 refine uN (b:=K c) (c:=1) hp (tI hc) (by decide) (by rw [gJ];show(1:ZX)*K c=_;grind) fun h=>?_
 have:=h.pB (tI hc)
 rw [N_K hc]at this
 have:=hp.deg
 omega
theorem PK{p a b:ZX}(hp:oA p)(hb:b≠0)(h:dv a b):mu p a≤mu p b:=(mR hp hb).2 (((mR hp (h.ne hb)).1 (Nat.le_refl _)).trans h)
theorem afh{p a b q:ZX}(hp:oA p){c:Int}(hc:c≠0)(ha:a≠0)(e:K c*a=q*b):mu p a=mu p q+mu p b:=by
 obtain⟨h1,h2⟩:=kH hc ha e
 rw [←zF hp h1 h2,←e,zF hp (tI hc) ha,Y5 hp hc];omega
theorem IZ:∀(n:Nat) (a b:ZX),N a≤n→a≠0→b≠0→(∀p,oA p→mu p a≤mu p b)→dv a b
 | 0,a,b,hn,ha,_,_=>by have:=aF.1 ha;omega
 | n+1,a,b,hn,ha,hb,h=>by
  rcases Nat.lt_or_ge (N a) 2 with h1 | h1
  ·obtain⟨c,hc,rfl⟩:=lM (x:=a) (by have:=aF.1 ha;omega)
   exact aoZ hc b
  ·obtain⟨p,hp,hpa⟩:=zD _ a (Nat.le_refl _) h1
   have h2:1≤mu p a:=(mR hp ha).2 (by rw [show p^1=p by rw [pow_succ',gJ];grind];exact hpa)
   have h3:dv p b:=by
    have:=(mR hp hb).1 (Nat.le_trans h2 (h p hp))
    rwa [show p^1=p by rw [pow_succ',gJ];grind]at this
   obtain⟨c,hc,a',ea⟩:=hpa
   obtain⟨d,hd,b',eb⟩:=h3
   obtain⟨JW,_⟩:=kH hc ha ea
   obtain⟨AK,_⟩:=kH hd hb eb
   have h4:N (K c*a)=N a:=by rw [mP (tI hc) ha,N_K hc];have:=aF.1 ha;omega
   have h5:dv a' b':=IZ n a' b' (by
    rw [ea,mP JW hp.ne]at h4
    have:=hp.deg
    omega) JW AK fun r hr=>by
    have h6:=h r hr
    rw [afh hr hc ha ea,afh hr hd hb eb]at h6
    omega
   refine dv.IY hd ?_
   rw [eb]
   have h7:=h5.mul (dv.refl p)
   rw [←ea]at h7
   obtain⟨e,he,q,e3⟩:=h7
   exact⟨e,he,q*K c,by grind⟩
theorem pW{a b:ZX}(ha:a≠0)(hb:b≠0):dv a b ↔ ∀p,oA p→mu p a≤mu p b:=⟨fun h p hp=>PK hp hb h,IZ _ a b (Nat.le_refl _) ha hb⟩
theorem n9.mu{g a b p:ZX}(h:n9 g a b)(ha:a≠0)(hb:b≠0)(hp:oA p):mu p g=min (ZX.mu p a) (ZX.mu p b):=by
 have hg:=h.ne (.inl ha)
 have h1:=PK hp ha h.l
 have h2:=PK hp hb h.r
 have h3:min (ZX.mu p a) (ZX.mu p b)≤ZX.mu p g:=(mR hp hg).2 (h.least ((mR hp ha).1 (Nat.min_le_left _ _)) ((mR hp hb).1 (Nat.min_le_right _ _)))
 omega
def uO(x:List Int):List Int:=(List.range (x.length-1)).map fun i=>nth x (i+1)*((i+1:Nat):Int)
def n7:Nat→List Int→List Int
 | _,[]=>[]
 | k,a::l=>a*(k:Int)::n7 (k+1) l
def W(t:Int):List Int→Int
 | []=>0
 | _::l=>V t l+t*W t l
theorem PL:∀(l:List Int) (k:Nat),n7 k l=(List.range l.length).map fun i=>nth l i*((k+i:Nat):Int)
 | [],k=>rfl
 | a::l,k=>by
  rw [n7,PL l (k+1),List.length_cons,List.range_succ_eq_map,List.map_cons,List.map_map]
  congr 1
  refine List.map_congr_left fun i _=>?_
  simp only [Function.comp_apply,iT]
  rw [show k+1+i=k+(i+1)by omega]
theorem CR(a:Int)(l:List Int):uO (a::l)=n7 1 l:=by
 rw [PL,uO,List.length_cons,Nat.add_sub_cancel]
 refine List.map_congr_left fun i _=>?_
 rw [iT,show i+1=1+i by omega]
theorem vU(t:Int):∀(l:List Int) (k:Nat),V t (n7 (k+1) l)=V t (n7 k l)+V t l
 | [],k=>by simp [n7,V]
 | a::l,k=>by
  simp only [n7,V]
  rw [vU t l (k+1)]
  have:((k+1:Nat):Int)=(k:Int)+1:=by omega
  rw [this];grind
theorem zG(t:Int):∀l:List Int,V t (n7 1 l)=V t l+t*W t l
 | []=>by simp [n7,V,W]
 | b::m=>by
  rw [n7]
  simp only [V,W]
  rw [vU,zG t m]
  rw [show((1:Nat):Int)=1 from rfl]
  grind
theorem aiI(t:Int):∀x:List Int,V t (uO x)=W t x
 | []=>rfl
 | a::l=>by rw [CR,zG];rfl
def b6(x:ZX):ZX:=of (uO x.l)
theorem PM(x:ZX):V t (b6 x).l=W t x.l:=by rw [b6,MR,aiI]
theorem EV(t h:Int):∀x:List Int,∃R:Int,V (t+h) x=V t x+h*W t x+h*h*R
 | []=>⟨0,by simp [V,W]⟩
 | a::l=>by
  obtain⟨R,hR⟩:=EV t h l
  refine⟨W t l+(t+h)*R,?_⟩
  simp only [V,W]
  rw [hR];grind
theorem Y6{t A:Int}{z:List Int}(hA:∀h,∃R:Int,V (t+h) z=V t z+h*A+h*h*R):W t z=A:=by
 have key:∀h:Int,h≠0→h∣W t z-A:=fun h hh=>by
  obtain⟨R,hR⟩:=hA h
  obtain⟨S,hS⟩:=EV t h z
  refine⟨R-S,Int.eq_of_mul_eq_mul_left hh ?_⟩
  grind
 have h1:=key (((W t z-A).natAbs:Int)+1) (by omega)
 have h2:=Int.natAbs_dvd_natAbs.2 h1
 rcases Nat.eq_zero_or_pos (W t z-A).natAbs with h3 | h3
 ·omega
 ·have:=Nat.le_of_dvd h3 h2
  omega
theorem w6(x y:ZX):b6 (x*y)=b6 x*y+x*b6 y:=ext fun t=>by
 rw [PM,j3,dD,dD,PM,PM]
 refine Y6 fun h=>?_
 obtain⟨R,hR⟩:=EV t h x.l
 obtain⟨S,hS⟩:=EV t h y.l
 refine⟨V t x.l*S+R*V t y.l+W t x.l*W t y.l+h*(W t x.l*S+R*W t y.l)+h*h*R*S,?_⟩
 rw [dD,dD,hR,hS];grind
theorem afi(c:Int):b6 (K c)=0:=ext fun t=>by
 rw [PM,rR]
 refine Y6 fun h=>⟨0,?_⟩
 rw [sE,sE];grind
theorem Y7(c:Int)(x:ZX):b6 (K c*x)=K c*b6 x:=by rw [w6,afi];grind
theorem PN:b6 (1:ZX)=0:=afi 1
theorem PO(p:ZX):∀m:Nat,b6 (p^(m+1))=K ((m+1:Nat):Int)*p^m*b6 p
 | 0=>by
  rw [pow_succ',w6,gJ,PN]
  show _=(1:ZX)*1*b6 p
  grind
 | m+1=>by
  rw [pow_succ',w6,PO p m]
  have:K ((m+1+1:Nat):Int)=K ((m+1:Nat):Int)+1:=ext fun t=>by rw [j3,sE,sE,CO];omega
  rw [this,pow_succ'];grind
theorem n4(a:ZX):N (b6 a)≤N a-1:=Nat.le_trans (bN _) (by simp [uO,N])
theorem EW{a:ZX}(h:2≤N a):b6 a≠0:=by
 have h1:a.l.length=N a:=rfl
 have hl:=cM a.c (by omega)
 intro h0
 have h2:nth (b6 a).l (N a-2)=nth a.l (N a-1)*((N a-1:Nat):Int):=by
  show nth (aM (uO a.l)) _=_
  rw [gS,uO,bZ (by simp;omega)]
  simp only [List.getElem_map,List.getElem_range]
  rw [show N a-2+1=N a-1 by omega]
 rw [h0]at h2
 have h3:nth (0:ZX).l (N a-2)=0:=fY (by show(0:ZX).l.length≤_;exact Nat.zero_le _)
 rw [h3]at h2
 have h4:nth a.l (N a-1)=lead a.l:=by rw [lead,h1]
 rw [h4]at h2
 exact Int.mul_ne_zero hl (by omega) h2.symm
theorem oA.MS{p:ZX}(hp:oA p):¬dv p (b6 p):=fun h=>by
 have h1:=h.pB (EW hp.deg)
 have h2:=n4 p
 have:=hp.deg
 omega
theorem zH{p a:ZX}(hp:oA p)(ha:a≠0){m:Nat}(h:mu p a=m+1):b6 a≠0∧mu p (b6 a)=m:=by
 obtain⟨c,hc,b,hb,e,hn⟩:=zE hp ha
 rw [h]at e
 have e2:K c*b6 a=(b6 b*p+K ((m+1:Nat):Int)*(b*b6 p))*p^m:=by
  rw [←Y7,e,w6,PO,pow_succ'];grind
 have GM:¬dv p (b6 b*p+K ((m+1:Nat):Int)*(b*b6 p)):=fun h1=>by
  have h2:dv p (K ((m+1:Nat):Int)*(b*b6 p)):=by
   have h3:=h1.add ((dv.refl p).mul_left (-b6 b))
   rwa [show b6 b*p+K ((m+1:Nat):Int)*(b*b6 p) + -b6 b*p=K ((m+1:Nat):Int)*(b*b6 p)by grind]at h3
  have h4:=dv.IY (by omega) h2
  rcases hp.aff h4 with h5 | h5
  ·exact hn h5
  ·exact hp.MS h5
 have h6:b6 a≠0:=fun h0=>by
  rw [h0]at e2
  have h7:(b6 b*p+K ((m+1:Nat):Int)*(b*b6 p))*p^m=0:=by rw [←e2];grind
  rcases pA h7 with h8 | h8
  ·rw [h8]at GM;exact GM (dv.zero p)
  ·exact EU hp.ne m h8
 exact⟨h6,uN hp h6 hc e2 GM⟩
theorem n9.zH{g a p:ZX}(h:n9 g a (b6 a))(ha:a≠0)(hp:oA p):ZX.mu p g=ZX.mu p a-1:=by
 rcases Nat.eq_zero_or_pos (ZX.mu p a)with h1 | h1
 ·have:=PK hp ha h.l
  omega
 ·obtain⟨m,hm⟩:∃m,ZX.mu p a=m+1:=⟨ZX.mu p a-1,by omega⟩
  obtain⟨h2,h3⟩:=ZX.zH hp ha hm
  rw [h.mu ha h2 hp,h3,hm];omega
theorem Y8{p:ZX}(hp:oA p):mu p 1=0:=Y5 hp (by decide)
theorem n9.ao0{g a b q r:ZX}{c k:Int}(hc:c≠0)(hk:k≠0)(e:K c*a=q*b+K k*r)(h:n9 g b r):n9 g a b:=by
 obtain⟨d,hd,u,v,e2⟩:=h.uv
 refine⟨dv.IY hc ?_,h.l,k*d,Int.mul_ne_zero hk hd,v*K c,K k*u-v*q,by rw [←mQ];grind⟩
 rw [e]
 exact(h.l.mul_left q).add (h.r.mul_left _)
theorem n9.assoc{g g' a b:ZX}(h:n9 g a b)(h':n9 g' a b):dv g g'∧dv g' g:=⟨h'.least h.l h.r,h.least h'.l h'.r⟩
theorem n9.congr{g a b a' b':ZX}(h:n9 g a b)(h1:dv a a')(h2:dv a' a)(h3:dv b b')(h4:dv b' b):n9 g a' b':=by
 obtain⟨g',hg'⟩:=iJ _ a' b' (Nat.le_refl _)
 obtain⟨c,hc,u,v,e⟩:=hg'.uv
 have h5:dv g g':=hg'.least (h.l.trans h1) (h.r.trans h3)
 have h6:dv g' g:=h.least (hg'.l.trans h2) (hg'.r.trans h4)
 obtain⟨d,hd,w,e2⟩:=h6
 refine⟨h.l.trans h1,h.r.trans h3,c*d,Int.mul_ne_zero hc hd,w*u,w*v,by rw [←mQ];grind⟩
end ZX
theorem I0{H t:Nat}:∀ {x:List Int},(∀c∈x,c.natAbs≤H)→(V (t:Int) x).natAbs≤H*(1+t)^x.length
 | [],_=>by simp [V]
 | a::l,h=>by
  have h1:=I0 (t:=t) (x:=l) fun c hc=>h c (by simp [hc])
  have h2:=h a (by simp)
  simp only [V]
  have h3:(a+(t:Int)*V t l).natAbs≤a.natAbs+t*(V (t:Int) l).natAbs:=by
   have:=Int.natAbs_add_le a ((t:Int)*V t l)
   rwa [Int.natAbs_mul,Int.natAbs_natCast]at this
  have h4:t*(V (t:Int) l).natAbs≤t*(H*(1+t)^l.length):=Nat.mul_le_mul_left _ h1
  have h5:H*1≤H*(1+t)^l.length:=Nat.mul_le_mul_left _ (Nat.one_le_pow _ _ (by omega))
  rw [List.length_cons,Nat.pow_succ]
  have h6:H*((1+t)^l.length*(1+t))=H*(1+t)^l.length+t*(H*(1+t)^l.length):=by grind
  omega
def TC(s:Int):List Int→List Int
 | []=>[]
 | _::l=>V s l::TC s l
theorem afj(s t:Int):∀x:List Int,V t x=V s x+(t-s)*V t (TC s x)
 | []=>by simp [V,TC]
 | a::l=>by
  have:=afj s t l
  simp only [V,TC]
  have h2:t*V t l=t*(V s l+(t-s)*V t (TC s l)):=by rw [←this]
  grind
theorem I1(s:Int):∀x:List Int,x ≠ [] → ∃y,TC s x=y ++ [0]∧y.length=x.length-1
 | [],h=>absurd rfl h
 | [a],_=>⟨[],by simp [TC,V],rfl⟩
 | a::b::l,_=>by
  obtain⟨y,h1,h2⟩:=I1 s (b::l) (by simp)
  refine⟨V s (b::l)::y,by rw [TC,h1];rfl,by simp at h2 ⊢;omega⟩
theorem zI{s:Nat}{M:Nat}:∀ {x:List Int},(V (s:Int) x).natAbs≤M→(∀c∈TC s x,c.natAbs≤M) → ∀c∈x,c.natAbs≤M*(1+s)
 | [],_,_,c,hc=>by cases hc
 | a::l,h0,h,c,hc=>by
  have h1:(V (s:Int) l).natAbs≤M:=h _ (by simp [TC])
  have h2:∀c∈TC s l,c.natAbs≤M:=fun c hc=>h c (by simp [TC,hc])
  rcases List.mem_cons.1 hc with rfl | hc
  ·simp only [V]at h0
   have h3:c.natAbs≤(c+(s:Int)*V s l).natAbs+s*(V (s:Int) l).natAbs:=by
    have h4:c=(c+(s:Int)*V s l)+(-((s:Int)*V s l)):=by omega
    have h5:=Int.natAbs_add_le (c+(s:Int)*V s l) (-((s:Int)*V s l))
    rw [←h4,Int.natAbs_neg,Int.natAbs_mul,Int.natAbs_natCast]at h5
    exact h5
   have h4:s*(V (s:Int) l).natAbs≤s*M:=Nat.mul_le_mul_left _ h1
   rw [Nat.mul_add,Nat.mul_one,Nat.mul_comm M s];omega
  ·exact zI h1 h2 c hc
theorem EX(K:Nat):∀(P:List Nat) (A:Nat) (x:List Int),P.Nodup→(∀p∈P,p≤K)→x.length≤P.length→(∀p∈P,(V (p:Int) x).natAbs≤A) → ∀c∈x,c.natAbs≤A*(2*(K+1))^P.length
 | [],A,x,_,_,hl,_,c,hc=>by
  have:x = []:=List.eq_nil_of_length_eq_zero (by simpa using hl)
  rw [this]at hc;cases hc
 | s::P,A,x,hd,hK,hl,hv,c,hc=>by
  have hx:x ≠ []:=fun h=>by rw [h]at hc;cases hc
  have h0:=hv s (List.mem_cons_self ..)
  obtain⟨hs,hd⟩:=List.nodup_cons.1 hd
  obtain⟨y,h1,h2⟩:=I1 s x hx
  have hy:∀t:Int,V t (TC s x)=V t y:=fun t=>by rw [h1,dK];simp [V]
  have h3:∀p∈P,(V (p:Int) y).natAbs≤2*A:=fun p hp=>by
   have h4:=afj s (p:Int) x
   rw [hy]at h4
   have h5:=hv p (List.mem_cons_of_mem _ hp)
   have qF:p≠s:=fun h=>hs (h▸hp)
   have h6:(((p:Int)-s)*V (p:Int) y).natAbs≤2*A:=by
    have:((p:Int)-s)*V (p:Int) y=V (p:Int) x-V (s:Int) x:=by omega
    rw [this]
    omega
   rw [Int.natAbs_mul]at h6
   exact Nat.le_trans (Nat.le_mul_of_pos_left _ (by omega)) h6
  rw [List.length_cons]at hl ⊢
  have h4:=EX K P (2*A) y hd (fun p hp=>hK p (List.mem_cons_of_mem _ hp)) (by omega) h3
  have hP:1≤(2*(K+1))^P.length:=Nat.one_le_pow _ _ (by omega)
  have h5:=zI (s:=s) (M:=2*A*(2*(K+1))^P.length) (x:=x) (by
   have:A*1≤2*A*(2*(K+1))^P.length:=Nat.mul_le_mul (by omega) hP
   omega) (fun d hd=>by
   rw [h1]at hd
   rcases List.mem_append.1 hd with hd | hd
   ·exact h4 d hd
   ·simp at hd;subst hd;simp) c hc
  refine Nat.le_trans h5 ?_
  rw [Nat.pow_succ]
  have h6:A*((2*(K+1))^P.length*(2*(K+1)))=(2*A*(2*(K+1))^P.length)*(K+1):=by grind
  rw [h6]
  exact Nat.mul_le_mul_left _ (by have:=hK s (List.mem_cons_self ..);omega)
theorem zJ{α:Type}(p:α→Bool):∀l:List α,(l.filter p).length+(l.filter fun x => !p x).length=l.length
 | []=>rfl
 | a::l=>by
  have:=zJ p l
  cases h:p a<;>simp [h]<;>omega
theorem acY{x:List Int}(hx:aM x ≠ []){n:Nat}(hl:x.length≤n):∃P:List Nat,P.Nodup∧(∀p∈P,p≤2*n-1)∧P.length=n ∧ ∀p∈P,V (p:Int) x≠0:=by
 have h1:=zJ (fun p:Nat=>decide (V (p:Int) x=0)) (List.range (2*n))
 have h2:((List.range (2*n)).filter fun p:Nat=>decide (V (p:Int) x=0)).length<n:=Nat.not_le.1 fun h=>hx (by
  have h3:=EX (2*n) ((List.range (2*n)).filter fun p:Nat=>decide (V (p:Int) x=0)) 0 x (List.nodup_range.filter _) (fun p hp=>by have:=List.mem_range.1 (List.mem_filter.1 hp).1;omega) (by omega) (fun p hp=>by have:=of_decide_eq_true (List.mem_filter.1 hp).2;rw [this];decide)
  have h4:∀l:List Int,(∀c∈l,c.natAbs≤0*(2*(2*n+1))^((List.range (2*n)).filter fun p:Nat=>decide (V (p:Int) x=0)).length)→aM l = []:=fun l=>by
   induction l with
   | nil=>intro _;rfl
   | cons a l ih =>
    intro h
    have h5:=h a (List.mem_cons_self ..)
    rw [Nat.zero_mul]at h5
    rw [aM,ih fun c hc=>h c (List.mem_cons_of_mem _ hc),if_pos ⟨rfl,by omega⟩]
  exact h4 x h3)
 rw [List.length_range]at h1
 have h3:n≤((List.range (2*n)).filter fun p:Nat => !decide (V (p:Int) x=0)).length:=by omega
 refine⟨((List.range (2*n)).filter fun p:Nat => !decide (V (p:Int) x=0)).take n,(List.take_sublist _ _).nodup (List.nodup_range.filter _),fun p hp=>?_,by rw [List.length_take];omega,fun p hp=>?_⟩
 ·have:=List.mem_range.1 (List.mem_filter.1 (List.mem_of_mem_take hp)).1;omega
 ·have:=(List.mem_filter.1 (List.mem_of_mem_take hp)).2
  simpa using this
namespace ZX
theorem aiJ{a w g:ZX}{h n l:Nat}(ha:a≠0)(e:a=w*g)(hH:∀d∈a.l,d.natAbs≤2^h)(hN:N a≤n)(hn:n≤2^l):∀c∈g.l,c.natAbs≤2^(h+n*(2*l+3)):=by
 intro c hc
 have hw:w≠0∧g≠0:=⟨fun h0=>ha (by rw [e,h0];grind),fun h0=>ha (by rw [e,h0];grind)⟩
 have hlen:g.l.length≤n:=by
  have h1:N a=N w+N g-1:=by rw [e,mP hw.1 hw.2]
  have h2:=aF.1 hw.1
  show N g≤n
  omega
 have UX:1≤n:=by have:=aF.1 ha;omega
 obtain⟨P,p1,p2,p3,p4⟩:=acY (x:=a.l) (n:=n) (by
  rw [show aM a.l=a.l from a.c]
  have:=aF.1 ha
  intro h0
  have h3:N a=a.l.length:=rfl
  rw [h3,h0]at this;simp at this) hN
 have hv:∀p∈P,(V (p:Int) g.l).natAbs≤2^h*(2^(l+1))^n:=fun p hp=>by
  have h1:V (p:Int) a.l=V (p:Int) w.l*V (p:Int) g.l:=by
   conv=>lhs;rw [e]
   rw [dD]
  have h2:=p4 p hp
  have h3:(V (p:Int) g.l).natAbs≤(V (p:Int) a.l).natAbs:=by
   rw [h1,Int.natAbs_mul]
   have:V (p:Int) w.l≠0:=fun h0=>h2 (by rw [h1,h0,Int.zero_mul])
   exact Nat.le_mul_of_pos_left _ (by omega)
  refine Nat.le_trans h3 (Nat.le_trans (I0 hH) (Nat.mul_le_mul_left _ ?_))
  have h4:1+p≤2^(l+1):=by have:=p2 p hp;rw [Nat.pow_succ];omega
  exact Nat.le_trans (Nat.pow_le_pow_left h4 _) (Nat.pow_le_pow_right (Nat.two_pow_pos _) hN)
 have h5:=EX (2*n-1) P _ g.l p1 p2 (by omega) hv c hc
 refine Nat.le_trans h5 ?_
 rw [p3]
 have h7:2*(2*n-1+1)≤2^(l+2):=by rw [Nat.pow_add];omega
 have h8:(2*(2*n-1+1))^n≤(2^(l+2))^n:=Nat.pow_le_pow_left h7 _
 refine Nat.le_trans (Nat.mul_le_mul_left _ h8) (Nat.le_of_eq ?_)
 rw [←Nat.pow_mul,←Nat.pow_mul,←Nat.pow_add,←Nat.pow_add]
 congr 1
 grind
theorem aiK{a w g:ZX}{h n:Nat}(ha:a≠0)(e:a=w*g)(hb:Bd 2 h n a.l)(hn:n+1≤2^h):Bd 2 (h+n*(2*h+5)+1) n g.l:=by
 have hw:w≠0∧g≠0:=⟨fun h0=>ha (by rw [e,h0];grind),fun h0=>ha (by rw [e,h0];grind)⟩
 refine⟨?_,fun c hc=>?_⟩
 ·have h1:N a=N w+N g-1:=by rw [e,mP hw.1 hw.2]
  have h2:=aF.1 hw.1
  have h3:N a≤n:=hb.len
  show N g≤n
  omega
 ·have h1:=aiJ (h:=h) (n:=n) (l:=h) ha e (fun d hd=>by
   have h1:=lH (b:=2) (by decide) d
   have h2:=sV (b:=2) (by decide) (hb.sz d hd)
   omega) hb.len (by omega) c hc
  refine dN (by decide) (Nat.lt_of_le_of_lt h1 (Nat.pow_lt_pow_right (by decide) ?_))
  have:n*(2*h+3)≤n*(2*h+5):=Nat.mul_le_mul_left _ (by omega)
  omega
end ZX
end Pm
namespace Go.Proofs.YtiobceocpabjdaaGreat
open Go Pm
open ZX hiding N W
structure Nf(a:ZX):Prop where
 ne:a≠0
 g:bH a.l=1
 l:0<lead a.l
theorem uP{a:ZX}(h:a≠0):a.l ≠ []:=fun e=>by
 have:=aF.1 h
 have h2:ZX.N a=a.l.length:=rfl
 rw [h2,e]at this;simp at this
theorem aiL(x:List Int):Cn (o7 x):=Cn.cut _
def nf(a:ZX):ZX:=⟨o7 a.l,aiL _⟩
theorem kI:nf 0=0:=ZX.ext fun t=>rfl
theorem I2{a:ZX}(ha:a≠0):K (jQ a.l)*nf a=a:=ZX.ext fun t=>by
 rw [dD,sE]
 conv=>rhs;rw [←S4 a.c (uP ha)]
 rw [b8,Int.mul_comm];rfl
theorem nP{a:ZX}(ha:a≠0):jQ a.l≠0:=MO a.c (uP ha)
theorem afk{a:ZX}(ha:a≠0):nf a≠0:=fun h=>ha (by rw [←I2 ha,h];grind)
theorem lN{a:ZX}(ha:a≠0):Nf (nf a):=⟨afk ha,acP a.c (uP ha),YO a.c (uP ha)⟩
theorem Nf.nfe{a:ZX}(h:Nf a):nf a=a:=by
 have h1:jQ a.l=1:=by
  unfold jQ
  rw [if_neg (by have:=h.l;omega),h.g];rfl
 have:=I2 h.ne
 rw [h1]at this
 rw [←this]
 conv=>lhs;rw [this]
 show _=(1:ZX)*_
 grind
theorem Y9{c:Int}(hc:c≠0)(a:ZX):ZX.N (K c*a)=ZX.N a:=by
 by_cases ha:a=0
 ·rw [ha,show K c*(0:ZX)=0 by grind]
 ·rw [mP (tI hc) ha,N_K hc];have:=aF.1 ha;omega
theorem wP(a:ZX):ZX.N (nf a)=ZX.N a:=by
 by_cases ha:a=0
 ·rw [ha,kI]
 ·have:=Y9 (nP ha) (nf a)
  rw [I2 ha]at this
  exact this.symm
theorem K_l{c:Int}(hc:c≠0)(a:ZX):(K c*a).l=a.l.map (· * c):=by
 refine Cn.ext (K c*a).c (jO a.c hc) fun t=>?_
 rw [dD,sE,dE,Int.mul_comm]
theorem ZA{c:Int}(hc:c≠0){a:ZX}(ha:a≠0):lead (K c*a).l=c*lead a.l:=by
 have h:(K c*a).l=bJ (K c).l a.l:=rfl
 have hK:(K c).l = [c]:=by show aM [c] = [c];exact gV hc []
 rw [h,uH (K c).c a.c (by rw [hK];simp) (aF.1 ha),hK]
 rfl
theorem Nf.EY{a b:ZX}(ha:Nf a)(hb:Nf b){c d:Int}(hc:c≠0)(hd:d≠0)(e:K c*a=K d*b):a=b:=by
 have h1:c.natAbs=d.natAbs:=by
  have h2:bH (K c*a).l=bH (K d*b).l:=by rw [e]
  rw [K_l hc,K_l hd,jP,jP,ha.g,hb.g]at h2
  omega
 have h3:c*lead a.l=d*lead b.l:=by rw [←ZA hc ha.ne,←ZA hd hb.ne,e]
 have h4:c=d:=by
  rcases Int.natAbs_eq_natAbs_iff.1 h1 with h5 | h5
  ·exact h5
  ·exfalso
   subst h5
   have hl:=ha.l
   have hl2:=hb.l
   rcases Int.lt_or_gt_of_ne hd with h6 | h6
   ·have:=Int.mul_pos (show 0 < -d by omega) hl
    have:=Int.mul_neg_of_neg_of_pos h6 hl2
    omega
   ·have:=Int.mul_neg_of_neg_of_pos (show -d<0 by omega) hl
    have:=Int.mul_pos h6 hl2
    omega
 subst h4
 exact ZX.cancel (tI hc) e
theorem acZ{a b:ZX}{c d:Int}(ha:a≠0)(hc:c≠0)(hd:d≠0)(e:K c*a=K d*b):nf a=nf b:=by
 have hb:b≠0:=fun h=>by
  rw [h,show K d*(0:ZX)=0 by grind]at e
  exact o9 (tI hc) ha e
 refine Nf.EY (lN ha) (lN hb) (c:=c*jQ a.l) (d:=d*jQ b.l) (Int.mul_ne_zero hc (nP ha)) (Int.mul_ne_zero hd (nP hb)) ?_
 rw [←mQ,←mQ]
 have h1:=I2 ha
 have h2:=I2 hb
 grind
theorem PQ(a:ZX):nf (nf a)=nf a:=by
 by_cases ha:a=0
 ·rw [ha,kI,kI]
 ·exact(lN ha).nfe
theorem CS(a:ZX):dv a (nf a)∧dv (nf a) a:=by
 by_cases ha:a=0
 ·rw [ha,kI];exact⟨dv.refl 0,dv.refl 0⟩
 ·have h:=I2 ha
  exact⟨⟨jQ a.l,nP ha,1,by rw [h];grind⟩,⟨1,by decide,K (jQ a.l),by rw [h];show(1:ZX)*a=a;grind⟩⟩
theorem vV{a b:ZX}(h1:dv a b)(h2:dv b a):nf a=nf b:=by
 by_cases ha:a=0
 ·subst ha;rw [w5 h1]
 ·obtain⟨c,hc,q,e⟩:=h2
  have h3:=h1.pB (fun hb=>ha (by subst hb;exact w5 ⟨c,hc,q,e⟩))
  have h4:=dv.pB ⟨c,hc,q,e⟩ ha
  obtain⟨hq,hb⟩:=kH hc ha e
  have h5:=Y9 hc a
  rw [e,mP hq hb]at h5
  have:=aF.1 hq
  have:=aF.1 hb
  obtain⟨d,hd,rfl⟩:=lM (x:=q) (by omega)
  exact acZ ha hc hd e
theorem Nf.one:Nf 1:=⟨zC,by decide,by decide⟩
theorem Nf.mul{a b:ZX}(ha:Nf a)(hb:Nf b):Nf (a*b):=by
 refine⟨o9 ha.ne hb.ne,?_,?_⟩
 ·show bH (bJ a.l b.l)=1
  rw [YN a.c b.c (uP ha.ne) (uP hb.ne),ha.g,hb.g]
 ·show 0<lead (bJ a.l b.l)
  rw [uH a.c b.c (aF.1 ha.ne) (aF.1 hb.ne)]
  exact Int.mul_pos ha.l hb.l
theorem ZB{p a:ZX}(hp:oA p)(ha:a≠0):mu p (nf a)=mu p a:=by
 conv=>rhs;rw [←I2 ha]
 rw [zF hp (tI (nP ha)) (afk ha),Y5 hp (nP ha)];omega
theorem Nf.zK{a b:ZX}(ha:Nf a)(hb:Nf b)(h:∀p,oA p→mu p a=mu p b):a=b:=by
 rw [←ha.nfe,←hb.nfe]
 exact vV ((pW ha.ne hb.ne).2 fun p hp=>by have:=h p hp;omega) ((pW hb.ne ha.ne).2 fun p hp=>by have:=h p hp;omega)
theorem Nf.quo{a b:ZX}(ha:Nf a)(hb:Nf b)(h:dv b a):∃w,Nf w∧a=w*b:=by
 obtain⟨c,hc,q,e⟩:=h
 obtain⟨hq,_⟩:=kH hc ha.ne e
 refine⟨nf q,lN hq,Nf.EY ha ((lN hq).mul hb) hc (nP hq) ?_⟩
 have:=I2 hq
 grind
theorem Nf.exact{a b w:ZX}(hb:Nf b)(e:a=w*b):exact a.l b.l=some w.l:=by
 subst e
 exact MQ w.c b.c (aF.1 hb.ne)
theorem Nf.N1{a:ZX}(ha:Nf a)(h:ZX.N a≤1):a=1:=by
 obtain⟨c,hc,rfl⟩:=lM (x:=a) (by have:=aF.1 ha.ne;omega)
 exact Nf.EY ha Nf.one (show (1:Int)≠0 by decide) hc (by show(1:ZX)*_=K c*1;grind)
noncomputable def gz(a b:ZX):ZX:=nf (Classical.choose (iJ _ a b (Nat.le_refl _)))
theorem pY(a b:ZX):∃g,n9 g a b∧gz a b=nf g:=⟨_,Classical.choose_spec (iJ _ a b (Nat.le_refl _)),rfl⟩
theorem PR{g a b:ZX}(h:n9 g a b):gz a b=nf g:=by
 obtain⟨g',h',e⟩:=pY a b
 rw [e]
 obtain⟨h1,h2⟩:=h'.assoc h
 exact vV h1 h2
theorem n9.ao1{g g' a b:ZX}(h:n9 g a b)(h1:dv g g')(h2:dv g' g):n9 g' a b:=by
 obtain⟨c,hc,u,v,e⟩:=h.uv
 obtain⟨d,hd,w,e2⟩:=h1
 exact⟨h2.trans h.l,h2.trans h.r,c*d,Int.mul_ne_zero hc hd,w*u,w*v,by rw [←mQ];grind⟩
theorem kX(a b:ZX):n9 (gz a b) a b:=by
 obtain⟨g,h,e⟩:=pY a b
 rw [e]
 obtain⟨h1,h2⟩:=CS g
 exact n9.ao1 h h1 h2
theorem ao2{a b:ZX}(h:a≠0∨b≠0):gz a b≠0:=(kX a b).ne h
theorem ao3{a b:ZX}(h:a≠0∨b≠0):Nf (gz a b):=by
 have h0:=ao2 h
 obtain⟨g,h,e⟩:=pY a b
 rw [e]at h0 ⊢
 exact lN (fun hg=>h0 (by rw [hg,kI]))
theorem ac0(a b:ZX):gz a b=gz b a:=by
 have h:=kX a b
 rw [PR h.symm]
 obtain⟨g,_,e⟩:=pY a b
 rw [e,PQ]
theorem pZ(a:ZX):gz a 0=nf a:=PR (n9.zero a)
theorem ZC(a:ZX):gz 0 a=nf a:=by rw [ac0,pZ]
theorem zL{a b a' b':ZX}(h1:dv a a')(h2:dv a' a)(h3:dv b b')(h4:dv b' b):gz a b=gz a' b':=by
 obtain⟨g,hg,e⟩:=pY a b
 rw [e,PR (hg.congr h1 h2 h3 h4)]
theorem afm(a b:ZX):gz (nf a) b=gz a b:=zL (CS a).2 (CS a).1 (dv.refl b) (dv.refl b)
theorem MT(a b:ZX):gz a (nf b)=gz a b:=zL (dv.refl a) (dv.refl a) (CS b).2 (CS b).1
theorem EZ{a b q r:ZX}{c k:Int}(hc:c≠0)(hk:k≠0)(e:K c*a=q*b+K k*r):gz a b=gz b r:=by
 obtain⟨g,hg,e2⟩:=pY b r
 rw [e2,PR (hg.ao0 hc hk e)]
end Go.Proofs.YtiobceocpabjdaaGreat
namespace Go.Proofs.YtiobceocpabjdaaGreat
open Go Pm
open ZX hiding N W
open Classical in
noncomputable def qz(a b:ZX):ZX:=if h:∃w,Nf w∧a=w*b then h.choose else 0
theorem lO{a b:ZX}(ha:Nf a)(hb:Nf b)(h:dv b a):Nf (qz a b)∧a=qz a b*b:=by
 have h:=ha.quo hb h
 unfold qz
 rw [dif_pos h]
 exact h.choose_spec
theorem ao4{a b w:ZX}(hb:Nf b)(hw:Nf w)(e:a=w*b):qz a b=w:=by
 have ha:Nf a:=by rw [e];exact hw.mul hb
 obtain⟨h1,h2⟩:=lO ha hb ⟨1,by decide,w,by rw [e];show(1:ZX)*_=_;grind⟩
 refine ZX.cancel hb.ne ?_
 have:qz a b*b=w*b:=by rw [←h2,e]
 grind
theorem ZD{a b:ZX}(ha:Nf a)(hb:Nf b)(h:dv b a):exact a.l b.l=some (qz a b).l:=Nf.exact hb (lO ha hb h).2
theorem afn{a b p:ZX}(ha:Nf a)(hb:Nf b)(h:dv b a)(hp:oA p):mu p (qz a b)=mu p a-mu p b:=by
 obtain⟨h1,h2⟩:=lO ha hb h
 have h3:mu p a=mu p (qz a b)+mu p b:=by
  conv=>lhs;rw [h2]
  exact zF hp h1.ne hb.ne
 omega
theorem Nf.self{a:ZX}(ha:Nf a):qz a a=1:=ao4 ha Nf.one (by grind)
noncomputable def gd(a:ZX):ZX:=gz a (b6 a)
theorem PT{a:ZX}(ha:a≠0):Nf (gd a):=ao3 (.inl ha)
theorem vW(a:ZX):dv (gd a) a:=(kX a (b6 a)).l
theorem afo{a p:ZX}(ha:a≠0)(hp:oA p):mu p (gd a)=mu p a-1:=(kX a (b6 a)).zH ha hp
theorem atS{a:ZX}(h:2≤ZX.N a):ZX.N (gd a)<ZX.N a:=by
 have h1:=(kX a (b6 a)).r.pB (EW h)
 have h2:=n4 a
 have:ZX.N (gd a)=ZX.N (gz a (b6 a)):=rfl
 omega
theorem ZE:gd 1=1:=by
 unfold gd
 rw [PN,pZ,Nf.one.nfe]
noncomputable def gs(a:ZX):Nat→ZX
 | 0=>a
 | k+1=>gd (gs a k)
theorem lP{a:ZX}(ha:Nf a):∀k,Nf (gs a k)
 | 0=>ha
 | k+1=>PT (lP ha k).ne
theorem I3(a:ZX):∀k,dv (gs a k) a
 | 0=>dv.refl a
 | k+1=>(vW _).trans (I3 a k)
theorem PU{a p:ZX}(ha:Nf a)(hp:oA p):∀k,mu p (gs a k)=mu p a-k
 | 0=>rfl
 | k+1=>by
  show mu p (gd (gs a k))=_
  rw [afo (lP ha k).ne hp,PU ha hp k];omega
theorem aiM{a:ZX}:∀k,ZX.N (gs a k)≤1∨ZX.N (gs a k)+k≤ZX.N a
 | 0 => .inr (Nat.le_refl _)
 | k+1=>by
  rcases aiM (a:=a) k with h | h
  ·left
   show ZX.N (gz (gs a k) (b6 (gs a k)))≤1
   by_cases h0:gs a k=0
   ·rw [h0,show b6 (0:ZX)=0 from ZX.ext fun t=>rfl,pZ,kI];decide
   ·exact Nat.le_trans ((kX _ _).l.pB h0) h
  ·rcases Nat.lt_or_ge (ZX.N (gs a k)) 2 with h2 | h2
   ·left
    show ZX.N (gz (gs a k) (b6 (gs a k)))≤1
    by_cases h0:gs a k=0
    ·rw [h0,show b6 (0:ZX)=0 from ZX.ext fun t=>rfl,pZ,kI];decide
    ·exact Nat.le_trans ((kX _ _).l.pB h0) (by omega)
   ·right
    have:=atS h2
    show ZX.N (gd (gs a k))+(k+1)≤_
    omega
open Classical in
noncomputable def nl(a:ZX):Nat:=if h:∃m,ZX.N (gs a m)≤1 ∧ ∀k,k<m→2≤ZX.N (gs a k)then h.choose else 0
theorem tJ(a:ZX):ZX.N (gs a (nl a))≤1 ∧ ∀k,k<nl a→2≤ZX.N (gs a k):=by
 have h:∃m,ZX.N (gs a m)≤1 ∧ ∀k,k<m→2≤ZX.N (gs a k):=by
  have key:∀n,(∃m,m≤n∧ZX.N (gs a m)≤1 ∧ ∀k,k<m→2≤ZX.N (gs a k)) ∨ ∀k,k≤n→2≤ZX.N (gs a k):=by
   intro n
   induction n with
   | zero =>
    rcases Nat.lt_or_ge (ZX.N (gs a 0)) 2 with h | h
    ·exact .inl ⟨0,Nat.le_refl _,by omega,fun k hk=>by omega⟩
    ·exact .inr fun k hk=>by rw [show k=0 by omega];exact h
   | succ n ih =>
    rcases ih with ⟨m,h1,h2⟩ | ih
    ·exact .inl ⟨m,by omega,h2⟩
    ·rcases Nat.lt_or_ge (ZX.N (gs a (n+1))) 2 with h | h
     ·exact .inl ⟨n+1,Nat.le_refl _,by omega,fun k hk=>ih k (by omega)⟩
     ·refine .inr fun k hk=>?_
      rcases Nat.lt_or_ge k (n+1)with h3 | h3
      ·exact ih k (by omega)
      ·rw [show k=n+1 by omega];exact h
  rcases key (ZX.N a)with ⟨m,_,h⟩ | h
  ·exact⟨m,h⟩
  ·have h1:=h (ZX.N a) (Nat.le_refl _)
   rcases aiM (a:=a) (ZX.N a)with h2 | h2<;>omega
 unfold nl
 rw [dif_pos h]
 exact h.choose_spec
theorem afp(a:ZX):nl a≤ZX.N a:=by
 rcases Nat.eq_zero_or_pos (nl a)with h | h
 ·omega
 ·have h1:=(tJ a).2 (nl a-1) (by omega)
  rcases aiM (a:=a) (nl a-1)with h2 | h2<;>omega
theorem ZF{a:ZX}(ha:Nf a):∀j,gs a (nl a+j)=1
 | 0=>(lP ha _).N1 (tJ a).1
 | j+1=>by
  show gd (gs a (nl a+j))=1
  rw [ZF ha j,ZE]
noncomputable def wz(a:ZX)(k:Nat):ZX:=qz (gs a k) (gs a (k+1))
theorem gW{a:ZX}(ha:Nf a)(k:Nat):Nf (wz a k)∧gs a k=wz a k*gs a (k+1):=lO (lP ha k) (lP ha (k+1)) (vW _)
theorem I4{a p:ZX}(ha:Nf a)(hp:oA p)(k:Nat):mu p (wz a k)=if k<mu p a then 1 else 0:=by
 rw [wz,afn (lP ha k) (lP ha (k+1)) (vW _) hp,PU ha hp,PU ha hp]
 split<;>omega
theorem PW{a:ZX}(ha:Nf a)(k:Nat):dv (wz a (k+1)) (wz a k):=(pW (gW ha _).1.ne (gW ha _).1.ne).2 fun p hp=>by
 rw [I4 ha hp,I4 ha hp]
 split<;>split<;>omega
noncomputable def zM(a:ZX)(k:Nat):ZX:=qz (wz a k) (wz a (k+1))
theorem E0{a:ZX}(ha:Nf a)(k:Nat):Nf (zM a k)∧wz a k=zM a k*wz a (k+1):=lO (gW ha k).1 (gW ha (k+1)).1 (PW ha k)
theorem ao5{a p:ZX}(ha:Nf a)(hp:oA p)(k:Nat):mu p (zM a k)=if mu p a=k+1 then 1 else 0:=by
 rw [zM,afn (gW ha k).1 (gW ha (k+1)).1 (PW ha k) hp,I4 ha hp,I4 ha hp]
 split<;>split<;>split<;>omega
noncomputable def fl(a:ZX):List ZX:=(List.range (nl a)).map (zM a)
theorem ZG{a p:ZX}(ha:Nf a)(hp:oA p):mu p a≤nl a:=by
 have h:=PU ha hp (nl a)
 have h1:=ZF ha 0
 rw [Nat.add_zero]at h1
 rw [h1,Y8 hp]at h
 omega
noncomputable def pf(a:ZX)(c:Nat→Bool):Nat→ZX
 | 0=>1
 | k+1=>if c k then pf a c k*zM a k else pf a c k
theorem CT{a:ZX}(ha:Nf a)(c:Nat→Bool):∀k,Nf (pf a c k)
 | 0=>Nf.one
 | k+1=>by
  rw [pf]
  split
  ·exact(CT ha c k).mul (E0 ha k).1
  ·exact CT ha c k
theorem ZH{a p:ZX}(ha:Nf a)(hp:oA p)(c:Nat→Bool):∀k,mu p (pf a c k)=if 1≤mu p a∧mu p a≤k∧c (mu p a-1)=true then 1 else 0
 | 0=>by
  rw [pf,Y8 hp,if_neg (by omega)]
 | k+1=>by
  have ih:=ZH ha hp c k
  have hf:=ao5 ha hp k
  rw [pf]
  by_cases hc:c k=true
  ·rw [if_pos hc,zF hp (CT ha c k).ne (E0 ha k).1.ne,ih,hf]
   by_cases h1:mu p a=k+1
   ·rw [if_pos h1,h1,Nat.add_sub_cancel,if_neg (by omega),if_pos ⟨by omega,Nat.le_refl _,hc⟩]
   ·rw [if_neg h1]
    by_cases h2:1≤mu p a∧mu p a≤k∧c (mu p a-1)=true
    ·rw [if_pos h2,if_pos ⟨h2.1,by omega,h2.2.2⟩]
    ·rw [if_neg h2,if_neg (fun h3=>h2 ⟨h3.1,by omega,h3.2.2⟩)]
  ·rw [if_neg hc,ih]
   by_cases h1:mu p a=k+1
   ·rw [h1,Nat.add_sub_cancel,if_neg (by omega),if_neg (fun h3=>hc h3.2.2)]
   ·by_cases h2:1≤mu p a∧mu p a≤k∧c (mu p a-1)=true
    ·rw [if_pos h2,if_pos ⟨h2.1,by omega,h2.2.2⟩]
    ·rw [if_neg h2,if_neg (fun h3=>h2 ⟨h3.1,by omega,h3.2.2⟩)]
noncomputable def sz'(a:ZX):ZX:=wz a 0
theorem ZI{a:ZX}(ha:Nf a):Nf (sz' a):=(gW ha 0).1
theorem ZJ{a p:ZX}(ha:Nf a)(hp:oA p):mu p (sz' a)=min (mu p a) 1:=by
 rw [sz',I4 ha hp]
 split<;>omega
theorem aiN{a:ZX}(ha:Nf a):pf a (fun _=>true) (nl a)=sz' a:=Nf.zK (CT ha _ _) (ZI ha) fun p hp=>by
 have h:=ZG ha hp
 rw [ZH ha hp,ZJ ha hp]
 by_cases h1:1≤mu p a
 ·rw [if_pos ⟨h1,h,rfl⟩];omega
 ·rw [if_neg (fun h2=>h1 h2.1)];omega
theorem I5{a:ZX}(h:ZX.N a≤1):nl a=0:=by
 rcases Nat.eq_zero_or_pos (nl a)with h1 | h1
 ·exact h1
 ·have:=(tJ a).2 0 h1
  have:ZX.N (gs a 0)=ZX.N a:=rfl
  omega
def qb(h n:Nat):Nat:=h+n*(2*h+5)+1
theorem ao6{a b:ZX}(ha:Nf a)(hb:Nf b)(hd:dv b a){h n:Nat}(hx:Bd 2 h n a.l)(hn:n+1≤2^h):Bd 2 (qb h n) n b.l:=by
 obtain⟨w,_,e⟩:=ha.quo hb hd
 exact aiK ha.ne e hx hn
theorem ZK{a b:ZX}(ha:Nf a)(hb:Nf b)(h:dv b a):dv (qz a b) a:=by
 obtain⟨_,h2⟩:=lO ha hb h
 exact⟨1,by decide,b,by rw [ZX.TA b,←h2];show(1:ZX)*_=_;grind⟩
theorem E1{a:ZX}(ha:Nf a)(k:Nat):dv (wz a k) a:=(ZK (lP ha k) (lP ha (k+1)) (vW _)).trans (I3 a k)
theorem ac1{a:ZX}(ha:Nf a)(k:Nat):dv (zM a k) a:=(ZK (gW ha k).1 (gW ha (k+1)).1 (PW ha k)).trans (E1 ha k)
theorem ac2{a:ZX}(ha:Nf a)(c:Nat→Bool)(k:Nat):dv (pf a c k) a:=(pW (CT ha c k).ne ha.ne).2 fun p hp=>by
 rw [ZH ha hp]
 split<;>omega
end Go.Proofs.YtiobceocpabjdaaGreat
namespace Go.Proofs.YtiobceocpabjdaaGreat
open Go Pm
theorem zN(v:Int):sz LL v≤sz 2 v:=dN fR (Nat.lt_of_lt_of_le (lH (b:=2) (by decide) v) (Nat.pow_le_pow_left (by decide) _))
theorem F0{h n:Nat}{x:List Int}(hx:Bd 2 h n x):Bd LL h n x:=⟨hx.len,fun c hc=>Nat.le_trans (zN c) (hx.sz c hc)⟩
instance:Inhabited ZX:=⟨0⟩
abbrev BZ(h n:Nat)(a:ZX):Prop:=Bd 2 h n a.l
theorem BZ.pb{h n:Nat}{a:ZX}(b:BZ h n a)(hh:h<1099511627775)(hn:n<1099511627775):PB a.l:=PB.of (F0 b) hh hn
theorem BZ.A8{h n:Nat}{a:ZX}(b:BZ h n a)(hh:h<1099511627775)(hn:n<1099511627775):qJ (a.l.map qI):=(b.pb hh hn).A8
theorem vX(a:ZX):kM (a.l.map qI)=a.l:=by rw [acN];exact a.c
theorem BZ.mono{h h' n n':Nat}{a:ZX}(b:BZ h n a)(hh:h≤h')(hn:n≤n'):BZ h' n' a:=Bd.mono b hh hn
theorem BZ.nf{h n:Nat}{a:ZX}(b:BZ h n a):BZ h n (nf a):=Y1 b
theorem BZ.N{h n:Nat}{a:ZX}(b:BZ h n a):ZX.N a≤n:=Bd.len b
theorem ZL{h n:Nat}{a:ZX}(b:BZ h n a)(hh:h<1099511627774)(hn:n<1099511627774)(k:Nat)(hk:k+1<a.l.length):aL env.P 164 [.int .i64 (k:Int), .rd [Po a.l]] (I (nth a.l (k+1)*((k+1:Nat):Int))):=by
 have hlen:=b.len
 have hz:=(F0 b).nth (k+1)
 have o1:=yR ((k+1:Nat):Int) (by omega) (by omega)
 have hk1:Sz ((k+1:Nat):Int):=Nat.lt_of_le_of_lt (dN (k:=2) fR (by rw [Int.natAbs_natCast];show k+1<4294967296^2;omega)) (by decide)
 have m1:=s6 (x:=nth a.l (k+1)) (y:=((k+1:Nat):Int)) (by show Pm.sz LL _<_;omega) hk1
 have e:((k:Int)+1).toNat=k+1:=by omega
 rw [Int.natCast_add,Int.natCast_one]at o1 m1
 refine cH [(0, .int .i64 (k:Int)),(1, .rd [Po a.l])] Tryz.func164 ?_
 generalize a.l=x at *
 refine aA [0,1,3] ?_
 refine W.sd ?_
 simp (disch:=omega) [gw,e]
 refine cX o1 ?_
 refine cV [3] m1 ?_
 exact cR
theorem rS{h n:Nat}{a:ZX}(b:BZ h n a)(hh:h<1099511627774)(hn:n<1099511627774):aL env.P 85 [Po a.l] (Po (ZX.b6 a).l):=by
 have hlen:=b.len
 have hc:=fun k hk=>ZL b hh hn k hk
 have hE:=oY 164 rfl [.rd [Po a.l]] rfl (a.l.length-1) (by omega) (fun k=>nth a.l (k+1)*((k+1:Nat):Int)) (fun k hk=>hc k (by omega))
 have e0:aM ((List.range (a.l.length-1)).map fun k=>nth a.l (k+1)*((k+1:Nat):Int))=(ZX.b6 a).l:=rfl
 rw [e0]at hE
 generalize (ZX.b6 a).l=d at *
 generalize a.l=x at *
 have e1:(if (1:Int)<(x.length:Int)then(x.length:Int)-1 else 0)=((x.length-1:Nat):Int):=by split<;>omega
 refine cH [(0,Po x)] Tryz.func85 ?_
 refine aA [1] ?_
 refine W.sr ?_
 simp (disch:=omega) [gw,e1]
 refine cV [2] hE ?_
 exact cR
theorem MU{α:Type}{g:α→List PV}{l:List α}{c:Int}{d:List Int}(h1:aL env.P 137 [aQ g l] (.dX [I c,Po d])):aL env.P 140 [aQ g l] (Po d):=by
 refine cH [(0,aQ g l)] Tryz.func140 ?_
 refine aA [0] ?_
 refine a7 [4] h1 ?_
 refine aA [2] ?_
 exact cR
theorem p0{h n:Nat}{a:ZX}(b:BZ h n a)(hh:h<1099511627774)(hn:n<1099511627774):aL env.P 140 [Po a.l] (Po (nf a).l):=by
 have h1:=qX (a.l.map qI) (b.A8 (by omega) (by omega)) (s:=h) (n:=n) (by rw [bT];exact F0 b) hh hn
 rw [vX,←gT]at h1
 exact MU h1
theorem ac3{h h' n:Nat}{a c:ZX}(b:BZ h n a)(b':BZ h' n c)(ha:Nf a)(hc:Nf c)(hd:ZX.dv c a)(hB:h+n*(h'+n+1)+h'+n+n+10<1099511627774):aL env.P 141 [Po a.l,Po c.l] (Po (qz a c).l):=by
 have h0:¬c.l = []:=uP hc.ne
 have h1:=S3 (a.l.map qI) (c.l.map qI) (b.A8 (by omega) (by omega)) (b'.A8 (by omega) (by omega)) (s:=h) (s':=h') (N:=n) (by rw [bT];exact F0 b) (by rw [bT];exact F0 b') hB
 rw [vX,vX,if_neg h0,ZD ha hc hd,←gT,←gT,exR]at h1
 generalize (qz a c).l=d at *
 generalize a.l=x at *
 generalize c.l=y at *
 refine cH [(0,Po x),(1,Po y)] Tryz.func141 ?_
 refine aA [0,1] ?_
 refine a7 [5] h1 ?_
 refine aA [4] ?_
 exact cR
def rs(a c:ZX):ZX:=⟨II a.l c.l,aiA _ _⟩
theorem zO{x:List Int}(cx:Cn x)(hx:x ≠ []):(iX x).map (· * (bH x:Int))=x:=by
 have hg:=bX cx hx
 have h1:=wZ (g:=(bH x:Int)) (fun c hc=>gD x c hc)
 have h2:Cn (x.map (n8 (bH x))):=by
  have h3:x.map (n8 (bH x))=aM (x.map (n8 (bH x))):=by
   refine(List.map_inj_right (f:=fun v:Int=>v*(bH x:Int)) (fun u v e=>Int.eq_of_mul_eq_mul_right (by omega) e)).1 ?_
   rw [h1]
   refine Cn.ext cx (jO (Cn.cut _) (by omega)) fun t=>?_
   rw [dE,cE,←dE,h1]
  exact h3.symm
 rw [iX,show aM (x.map (n8 (bH x)))=_ from h2,h1]
theorem ac4{a c:ZX}(hc:c≠0):∃(m k:Int) (q:ZX),m≠0∧k≠0∧ZX.K m*a=q*c+ZX.K k*rs a c:=by
 have h0:=ZX.aF.1 hc
 obtain⟨c1,c2⟩:=yN (b:=c.l) a.c
 have hm:lead c.l^iH a.l c.l≠0:=Int.pow_ne_zero (cM c.c h0)
 have hsg:=YJ (lead c.l) (iH a.l c.l)
 have hr:=YK (b:=c.l) a.c
 have hV:=fun t=>XE t a.l c.l
 have hg:sg (lead c.l) (iH a.l c.l)≠0:=fun h=>by rw [h]at hsg;simp at hsg
 generalize sg (lead c.l) (iH a.l c.l)=g at *
 generalize lead c.l^iH a.l c.l=m at *
 have hl:(rs a c).l=iX (aX (vK a.l c.l).2 g):=hr
 generalize rs a c=R at *
 generalize (vK a.l c.l).1=q at *
 generalize (vK a.l c.l).2=r at *
 have hcp:Cn (aX r g):=Cn.aX _ _
 by_cases hz:aX r g = []
 ·refine⟨m,1,⟨q,c1⟩,hm,by decide,ZX.ext fun t=>?_⟩
  rw [hz]at hl
  have h1:V t R.l=0:=by rw [hl];rfl
  have h2:V t r=0:=by
   have h3:V t (aX r g)=0:=by rw [hz];rfl
   rw [b8]at h3
   rcases Int.mul_eq_zero.1 h3 with h4 | h4
   ·exact h4
   ·exact absurd h4 hg
  rw [ZX.dD,ZX.sE,ZX.j3,ZX.dD,ZX.dD,ZX.sE,h1]
  have:=hV t
  rw [h2]at this
  show m*V t a.l=V t q*V t c.l+1*0
  omega
 ·have hgp:=bX hcp hz
  refine⟨m,g*(bH (aX r g):Int),⟨q,c1⟩,hm,Int.mul_ne_zero hg (by omega),ZX.ext fun t=>?_⟩
  have h1:=zO hcp hz
  have h2:V t (aX r g)=V t R.l*(bH (aX r g):Int):=by
   rw [hl,←dE,h1]
  rw [b8]at h2
  rw [ZX.dD,ZX.sE,ZX.j3,ZX.dD,ZX.dD,ZX.sE]
  have:=hV t
  show m*V t a.l=V t q*V t c.l+g*(bH (aX r g):Int)*V t R.l
  rw [←this]
  have h3:V t r=g*(V t r*g):=by
   have:g*(V t r*g)=V t r*(g*g):=by grind
   rw [this,hsg];omega
  rw [h3,h2];grind
theorem ao7{a c:ZX}(hc:c≠0):ZX.N (rs a c)<ZX.N c:=acO (ZX.aF.1 hc)
theorem jC{s n:Nat}{x:List Int}(hx:Bd 2 s n x):Bd 2 s n (iX x):=Bd.cut ⟨by simpa using hx.len,fun c hc=>by
 simp only [List.mem_map]at hc
 obtain⟨v,hv,rfl⟩:=hc
 refine Nat.le_trans (cS (by decide) ?_) (hx.sz v hv)
 unfold n8
 split
 ·exact Int.natAbs_ediv_le_natAbs _ _
 ·simp⟩
theorem ao8{s s' n:Nat}{a c:ZX}(ha:BZ s n a)(hb:BZ s' n c)(hc:c≠0):BZ (s+(ZX.N a+1-ZX.N c)*(s'+n+1)) n (rs a c):=by
 have h0:=ZX.aF.1 hc
 have hl:=ao7 (a:=a) hc
 have hk:iH a.l c.l≤n:=by
  have h1:=ha.N
  have h2:iH a.l c.l=ZX.N a+1-ZX.N c:=rfl
  omega
 obtain⟨_,h2⟩:=XD (B:=2) (by decide) hb (iH a.l c.l) s [] a.l hk ⟨by simp,fun c hc=>by cases hc⟩ (ha.mono (Nat.le_refl _) (by omega))
 have h3:Bd 2 (s+iH a.l c.l*(s'+n+1)) (n+n) (II a.l c.l):=by
  unfold II
  split
  ·exact jC (Bd.fK h2)
  ·exact jC h2
 have h4:=hb.N
 have h5:ZX.N (rs a c)=(II a.l c.l).length:=rfl
 exact⟨by show(II a.l c.l).length≤n;omega,fun d hd=>h3.sz d hd⟩
theorem ZM{d:Nat}(h:1≤d):d+2≤4^d:=by
 obtain⟨k,rfl⟩:∃k,d=k+1:=⟨d-1,by omega⟩
 clear h
 induction k with
 | zero=>decide
 | succ k ih=>rw [Nat.pow_succ];omega
def wQ(C n s:Nat)(a c:ZX):Prop:=if ZX.N c<ZX.N a then(s+n+1)*4^ZX.N a≤C else(s+n+1)*2*4^ZX.N c≤C
theorem wQ.le{C n s:Nat}{a c:ZX}(h:wQ C n s a c):s+n+1≤C:=by
 unfold wQ at h
 split at h
 ·exact Nat.le_trans (Nat.le_mul_of_pos_right _ (Nat.pow_pos (by decide))) h
 ·refine Nat.le_trans ?_ h
  rw [Nat.mul_assoc]
  exact Nat.le_mul_of_pos_right _ (Nat.mul_pos (by decide) (Nat.pow_pos (by decide)))
theorem wQ.step{C n s:Nat}{a c r:ZX}(h:wQ C n s a c)(hr:ZX.N r<ZX.N c):wQ C n (s+(ZX.N a+1-ZX.N c)*(s+n+1)) c r:=by
 unfold wQ at h ⊢
 rw [if_pos hr]
 generalize hT:s+n+1=T at *
 have e:s+(ZX.N a+1-ZX.N c)*T+n+1=(ZX.N a+1-ZX.N c+1)*T:=by
  rw [Nat.add_mul,Nat.one_mul];omega
 rw [e]
 split at h
 ·rename_i h1
  obtain⟨d,hd⟩:∃d,ZX.N a=ZX.N c+d:=⟨ZX.N a-ZX.N c,by omega⟩
  have h2:=ZM (d:=d) (by omega)
  rw [hd,Nat.pow_add]at h
  have h3:(ZX.N a+1-ZX.N c+1)*T≤4^d*T:=Nat.mul_le_mul_right _ (by omega)
  refine Nat.le_trans (Nat.mul_le_mul_right _ h3) ?_
  have:4^d*T*4^ZX.N c=T*(4^ZX.N c*4^d):=by grind
  omega
 ·rename_i h1
  refine Nat.le_trans (Nat.mul_le_mul_right _ (Nat.mul_le_mul_right T (show ZX.N a+1-ZX.N c+1≤2 by omega))) ?_
  rw [Nat.mul_comm 2 T];exact h
theorem I6{s n C:Nat}{a c:ZX}(b:BZ s n a)(b':BZ s n c)(hP:wQ C n s (nf a) (nf c))(hB:(n+1)*C≤99000000000):aL env.P 142 [Po a.l,Po c.l] (Po (gz a c).l):=by
 have hC:C≤99000000000:=Nat.le_trans (Nat.le_mul_of_pos_left C (by omega)) hB
 rw [Nat.succ_mul]at hB
 have hs:=hP.le
 have p1:=p0 b (by omega) (by omega)
 have p2:=p0 b' (by omega) (by omega)
 have b1:=b.nf
 have b2:=b'.nf
 have hg:gz (nf a) (nf c)=gz a c:=by rw [afm,MT]
 rw [←hg]
 generalize nZ:nf a=x0 at *
 generalize L5:nf c=y0 at *
 generalize hG:gz x0 y0=G at *
 refine cH [(0,Po a.l),(1,Po c.l)] Tryz.func142 ?_
 generalize a.l=al at *
 generalize c.l=cl at *
 refine aA [0,1] ?_
 refine jM ?_
 refine cX p1 ?_
 refine cV [0,1] p2 ?_
 refine W.seq ?_
 refine W.block ?_
 refine W.bC (fun k σ=>∃(x y:ZX) (s:Nat) (rows:Pm.Rows) (clk:Nat),σ=⟨fa [(0,Po x.l),(1,Po y.l)],rows,clk⟩∧BZ s n x∧BZ s n y∧wQ C n s x y∧gz x y=G∧k=ZX.N y) (ZX.N y0) ?_ ?_
 ·exact⟨_, .refl,x0,y0,s,_,_,rfl,b1,b2,hP,hG,rfl⟩
 rintro k _ ⟨x,y,s,rows,clk,rfl,bx,p7,hp,hgz,rfl⟩
 have hs:=hp.le
 have hlx:=bx.len
 have hly:=p7.len
 refine aR [0,1,13] ?_
 refine bP ?_ ?_<;>intro h
 ·have hy:y≠0:=ZX.aF.2 (by show 0<y.l.length;simp at h;omega)
  obtain⟨m,k,q,hm,hk,e⟩:=ac4 (a:=x) hy
  have hR:=IK (x.l.map qI) (y.l.map qI) (bx.A8 (by omega) (by omega)) (p7.A8 (by omega) (by omega)) (s:=s) (s':=s) (N:=n) (by rw [bT];exact F0 bx) (by rw [bT];exact F0 p7) (by
   have:n*(s+n+1)≤n*C:=Nat.mul_le_mul_left n hs
   omega)
  rw [vX,vX,if_neg (uP hy),←gT,←gT,show II x.l y.l=(rs x y).l from rfl]at hR
  have br:=ao8 bx p7 hy
  have hN:=ao7 (a:=x) hy
  have hp2:=hp.step hN
  have sI:=EZ hm hk e
  refine W.skip ?_
  refine W.block ?_
  refine a7 [1,5] hR ?_
  refine W.cG (fun K hK=>?_)
  simp (disch:=omega) [gw]
  refine hK _ ⟨ZX.N (rs x y),_,aD _ [0,1],hN,y,rs x y,_,_,_,rfl,p7.mono (by omega) (Nat.le_refl _),br,hp2,by rw [←sI,hgz],rfl⟩
 ·have hy:y=0:=by
   refine Classical.byContradiction fun h0=>?_
   have h1:=ZX.aF.1 h0
   have h2:ZX.N y=y.l.length:=rfl
   simp at h;rw [h2,h]at h1;simp at h1
  subst hy
  rw [pZ]at hgz
  have p3:=p0 bx (by omega) (by omega)
  rw [hgz]at p3
  refine fC ?_
  refine a7 [4] p3 ?_
  exact cR
theorem ac5{s n C:Nat}{a c:ZX}(b:BZ s n a)(b':BZ s n c)(hP:wQ C n s (nf a) (nf c))(hn:n≤20)(hC:C≤4500000000):aL env.P 142 [Po a.l,Po c.l] (Po (gz a c).l):=
 I6 b b' hP (Nat.le_trans (Nat.mul_le_mul (show n+1≤21 by omega) hC) (by decide))
def zp(a:ZX):List PV:=[Po a.l]
@[simp] theorem atT{a:ZX}:zp a = [Po a.l]:=rfl
@[simp] theorem alg{l:List ZX}:bB 1 (emap zp l)=True:=cJ fun _=>rfl
@[simp] theorem atU{l:List ZX}{a:ZX}:emap zp l ++ [[aQ ie a.l]]=emap zp (l ++ [a]):=by simp [emap]
@[simp] theorem aiQ{v e n:Nat}{l:List ZX}:cK (some ⟨v,e,n,emap zp l⟩)=True:=cC fun _=>rfl
theorem BZ.b6{h n:Nat}{a:ZX}(b:BZ h n a)(hn:n≤31):BZ (h+5) n (ZX.b6 a):=Bd.cut ⟨by have:=b.len;simp [ZX.uO];omega,fun c hc=>by
 simp only [ZX.uO,List.mem_map,List.mem_range]at hc
 obtain⟨i,hi,rfl⟩:=hc
 have:=b.len
 exact b5 (by decide) (b.nth _) (dN (k:=5) (by decide) (by rw [Int.natAbs_natCast];show i+1<32;omega))⟩
theorem ac6{h n:Nat}{a:ZX}(b:BZ h n a)(hn:n<1099511627776):aL env.P 83 [Po a.l] (.int .i64 ((ZX.N a:Int)-1)):=j2 a.l (by have:=b.len;omega)
structure tY(s n:Nat)(a:ZX):Prop where
 bz:BZ s n a
 hn:n≤20
 hs:n+1≤2^s
 hC:(qb s n+n+6)*4^n≤4500000000
theorem tY.vY{s n:Nat}{a:ZX}(h:tY s n a):qb s n+n+6≤4500000000:=Nat.le_trans (Nat.le_mul_of_pos_right _ (Nat.pow_pos (by decide))) h.hC
theorem tY.dv{s n:Nat}{a c:ZX}(h:tY s n a)(ha:Nf a)(hc:Nf c)(hd:ZX.dv c a):BZ (qb s n) n c:=ao6 ha hc hd h.bz h.hs
theorem tY.nfz{s n:Nat}{a:ZX}(h:tY s n a):tY s n (nf a):=⟨h.bz.nf,h.hn,h.hs,h.hC⟩
theorem tY.gdz{s n:Nat}{a c:ZX}(h:tY s n a)(ha:Nf a)(hc:Nf c)(hd:ZX.dv c a):aL env.P 142 [Po c.l,Po (ZX.b6 c).l] (Po (gd c).l)∧aL env.P 85 [Po c.l] (Po (ZX.b6 c).l)∧aL env.P 141 [Po c.l,Po (gd c).l] (Po (qz c (gd c)).l):=by
 have b:=h.dv ha hc hd
 have b2:=b.b6 (by have:=h.hn;omega)
 have hq:=h.vY
 have hn:=h.hn
 have bg:=h.dv ha (PT hc.ne) ((vW c).trans hd)
 refine⟨ac5 (s:=qb s n+5) (b.mono (by omega) (Nat.le_refl _)) b2 ?_ h.hn (C:=4500000000) (Nat.le_refl _),rS b (by omega) (by omega),ac3 b bg hc (PT hc.ne) (vW c) (by
  have:n*(qb s n+n+1)≤20*4500000000:=Nat.mul_le_mul hn (by omega)
  omega)⟩
 have hN:=ZX.n4 c
 have h1:ZX.N c≤n:=b.N
 have h2:=ZX.aF.1 hc.ne
 unfold wQ
 rw [wP,wP,if_pos (by omega)]
 refine Nat.le_trans (Nat.mul_le_mul (show qb s n+5+n+1≤qb s n+n+6 by omega) (Nat.pow_le_pow_right (by decide) h1)) h.hC
theorem l9(f:Nat→ZX){m i:Nat}(h:i<m):nth ((List.range m).map f) i=f i:=by
 rw [bZ (by simpa using h)];simp
theorem E2{s n C:Nat}{a c:ZX}(b:BZ s n a)(b':BZ s n c)(hP:wQ C n s (nf a) (nf c))(hn:n≤20)(hB:(n+1)*C≤99000000000):aL env.P 84 [Po a.l,Po c.l] (.bool (decide (ZX.N (gz a c)=1))):=by
 have h1:=I6 b b' hP hB
 have hl:ZX.N (gz a c)≤20:=by
  by_cases ha:a=0
  ·subst ha
   rw [ZC,wP]
   exact Nat.le_trans b'.N hn
  ·exact Nat.le_trans ((kX a c).l.pB ha) (Nat.le_trans b.N hn)
 have h2:=j2 (gz a c).l (by show ZX.N (gz a c)<_;omega)
 have e:(((gz a c).l.length:Int)-1==0)=decide (ZX.N (gz a c)=1):=by
  rw [Bool.eq_iff_iff,beq_iff_eq,decide_eq_true_iff]
  have:ZX.N (gz a c)=(gz a c).l.length:=rfl
  omega
 generalize gz a c=g at *
 refine cH [(0,Po a.l),(1,Po c.l)] Tryz.func84 ?_
 generalize a.l=x at *
 generalize c.l=y at *
 refine aA [0,1] ?_
 refine jM ?_
 refine cX h1 ?_
 refine aC h2 ?_
 simp (disch:=omega) [gw,e]
 refine bM [4] ?_
 exact cR
theorem I7{s n C:Nat}{a c:ZX}(b:BZ s n a)(b':BZ s n c)(hP:wQ C n s (nf a) (nf c))(hn:n≤20)(hC:C≤4500000000):aL env.P 84 [Po a.l,Po c.l] (.bool (decide (ZX.N (gz a c)=1))):=
 E2 b b' hP hn (Nat.le_trans (Nat.mul_le_mul (show n+1≤21 by omega) hC) (by decide))
noncomputable def sq(a:ZX):ZX:=if ZX.N a≤1 then nf a else sz' (nf a)
theorem I8{α:Type}{g:α→List PV}{l:List α}{s n:Nat}{a:ZX}(h:tY s n a)(p1:aL env.P 140 [aQ g l] (Po (nf a).l)):aL env.P 70 [aQ g l] (Po (sq a).l):=by
 have hqb:=h.vY
 have hn:=h.hn
 have hA:=h.nfz
 have atV:=ac6 hA.bz (by omega)
 have hsq:sq a=if ZX.N (nf a)≤1 then nf a else sz' (nf a):=by rw [wP];rfl
 have nA:2≤ZX.N (nf a)→Nf (nf a):=fun h2=>lN fun h0=>by rw [h0,kI]at h2;revert h2;decide
 rw [hsq]
 generalize nf a=A at *
 refine cH [(0,aQ g l)] Tryz.func70 ?_
 refine aA [0] ?_
 refine a7 [0] p1 ?_
 refine W.seq ?_
 refine a7 [0,7] atV ?_
 refine W.cond ⟨_,rfl,fun h3=>?_,fun h3=>?_⟩
 ·have h2:ZX.N A≤1:=by simp at h3;omega
  rw [if_pos h2]
  refine aA [2] ?_
  exact cR
 ·have h2:2≤ZX.N A:=by simp at h3;omega
  obtain⟨t1,t2,t3⟩:=hA.gdz (nA h2) (nA h2) (ZX.dv.refl A)
  rw [if_neg (by omega),show sz' A=qz A (gd A)from rfl]
  generalize (gd A).l=g1 at *
  refine W.skip ?_
  refine jM ?_
  refine cX t2 ?_
  refine cX t1 ?_
  refine cV [2] t3 ?_
  exact cR
theorem rT{s n:Nat}{a:ZX}(h:tY s n a):aL env.P 70 [Po a.l] (Po (sq a).l):=by
 have hqb:=h.vY
 have hn:=h.hn
 exact I8 h (p0 h.bz (by unfold qb at hqb;omega) (by omega))
@[simp] theorem TD:([]:List Int).length=0:=rfl
theorem jR{h n:Nat}{a:ZX}(b:BZ h n a)(h1:1≤h)(hh:h≤YY)(hn:n<1099511627776):aL env.P 78 [PI a.l] (PI (nf a).l):=by
 have hP:=zB a.l b a.c h1 hh hn
 have e:o7 a.l=(nf a).l:=rfl
 rw [e]at hP
 generalize jQ a.l=c at *
 generalize (nf a).l=d at *
 generalize a.l=x at *
 refine cH [(0,PI x)] Tryz.func78 ?_
 refine aA [0] ?_
 refine a7 [4] hP ?_
 refine aA [2] ?_
 exact cR
theorem tK{h n:Nat}{a:ZX}(b:BZ h n a)(hh:h≤YY)(hn:n≤1000):aL env.P 160 [PI a.l] (PI (ZX.b6 a).l):=by
 have hlen:=b.len
 have e0:(ZX.b6 a).l=aM ((List.range (a.l.length-1)).map fun k=>nth a.l (k+1)*((k:Int)+1)):=rfl
 rw [e0]
 have hz:=fun k=>b.nth k
 generalize a.l=x at *
 generalize hm:x.length-1=m at *
 refine cD (E:=env) (fun id=>if id=5 then 2 else 0) [(0,PI x)] Tryz.func160 rfl (by kernel_rfl) (by kernel_rfl) (show 1≤23 by decide) (by simp) ?_
 refine aA [0] ?_
 refine aA [0,3] ?_
 refine W.nil 3 3 31 4 (by simp) (by decide) (fun K hK=>?_)
 refine W.lw [0,3] hK ?_;clear hK K;simp
 refine aR [0,3,4] ?_
 refine W.block ?_
 refine W.bC (fun k σ=>∃(i ver:Nat) (rows:Pm.Rows) (clk:Nat),σ=⟨fa [(0,PI x),(3, .own 3 ver 0 i),(4, .int .i64 ((i:Int)+1))],rows,clk⟩ ∧
  rows 3=some ⟨ver,31,4,emap ri ((List.range i).map fun k=>nth x (k+1)*((k:Int)+1))⟩∧i+k=m) m ?_ ?_
 ·exact⟨_, .refl,0,_,_,_,rfl,by simp [emap],by omega⟩
 rintro k _ ⟨i,ver,rows,clk,rfl,hr,XZ⟩
 have sC:(emap ri ((List.range i).map fun k=>nth x (k+1)*((k:Int)+1))).length=i:=by simp [emap]
 refine aR [0,3,4,8] ?_
 refine bP ?_ ?_<;>intro h
 ·have hi:i+1<x.length:=by simp at h;omega
  have o1:=IC ((i:Int)+1) (by omega)
  have hzi:=hz (i+1)
  have m1:=CJ (nth x (i+1)) ((i:Int)+1) (Nat.le_trans hzi hh) (Nat.le_trans (dN (k:=10) (by decide) (by show((i:Int)+1).natAbs<1024;omega)) (by decide))
  have e1:((i:Int)+1).toNat=i+1:=by omega
  have er:(List.range (i+1)).map (fun k=>nth x (k+1)*((k:Int)+1))=(List.range i).map (fun k=>nth x (k+1)*((k:Int)+1)) ++ [nth x (i+1)*((i:Int)+1)]:=by
   rw [List.range_succ,List.map_append];simp
  have atW:((List.range i).map fun k=>nth x (k+1)*((k:Int)+1)).length=i:=by simp
  generalize (List.range i).map (fun k=>nth x (k+1)*((k:Int)+1))=acc at *
  generalize hq:nth x (i+1)*((i:Int)+1)=q at *
  refine kK ?_
  refine W.LV (fun K hK=>?_)
  rw [if_pos rfl,eH]
  simp (disch:=omega) [gw,e1]
  refine cX o1 ?_
  refine aC m1 ?_
  simp (disch:=omega) [gw,hr,atW]
  refine W.lw [0,3,4] hK ?_;clear hK K;simp
  refine W.cG (fun K hK=>?_);simp (disch:=omega) [gw]
  refine hK _ ⟨k-1,_,aD _ [0,3,4],by omega,i+1,_,_,_,by rw [Int.natCast_add];rfl,by rw [er];simp,by omega⟩
 ·have hi:i=m:=by simp at h;omega
  subst hi
  have eY:((List.range i).map fun k=>nth x (k+1)*((k:Int)+1)).length=i:=by simp
  generalize (List.range i).map (fun k=>nth x (k+1)*((k:Int)+1))=acc at *
  have ez:=bG eY
  refine fC ?_
  refine W.sr ?_
  simp (disch:=omega) [gw,hr,ez]
  refine aC (mO acc (by omega)) ?_
  simp (disch:=omega) [gw]
  refine bM [2] ?_
  exact cR
theorem I9:aL env.P 97 [.sl [[.int .i64 1]]] (PI (1:ZX).l):=acK [1] (by decide) (by decide)
def tZ(l:Int):Int:=if l<0 then -1 else 1
theorem ac7(l:Int):tZ l*l=l.natAbs:=by unfold tZ;split<;>omega
def PY(y x:List Int):List Int:=tW y (lead y).natAbs (tZ (lead y)*lead x) (x.length-y.length) x
def PZ(y x:List Int)(i:Nat):Int:=nth x i*((lead y).natAbs:Int)-if x.length-y.length≤i then tZ (lead y)*lead x*nth y (i-(x.length-y.length))else 0
theorem ZN{y x:List Int}(h:y.length≤x.length):aM ((List.range x.length).map (PZ y x))=PY y x:=by
 refine Cn.ext (Cn.cut _) (Cn.eE _ _) fun t=>?_
 unfold PY
 rw [cE,tW,gO,b8,cQ,lI]
 obtain⟨k,hk⟩:∃k,x.length=k+y.length:=⟨x.length-y.length,by omega⟩
 have e1:(List.range x.length).map (PZ y x)=(List.range x.length).map fun i=>nth x i*((lead y).natAbs:Int)+(-(if x.length-y.length≤i then tZ (lead y)*lead x*nth y (i-(x.length-y.length))else 0)):=List.map_congr_left fun i _=>by unfold PZ;omega
 rw [e1,pR,fO,iR (Nat.le_refl _)]
 generalize tZ (lead y)*lead x=T at *
 have e2:((List.range x.length).map fun i => -(if x.length-y.length≤i then T*nth y (i-(x.length-y.length))else 0))=List.replicate k 0++y.map fun v=>v*(-T):=by
  have hk2:x.length-y.length=k:=by omega
  rw [hk2,hk,List.range_add,List.map_append,List.map_map]
  congr 1
  ·rw [List.eq_replicate_iff]
   refine⟨by simp,fun v hv=>?_⟩
   simp only [List.mem_map,List.mem_range]at hv
   obtain⟨i,hi,rfl⟩:=hv
   rw [if_neg (by omega)];rfl
  ·have h2:=mJ (x:=y) (n:=y.length) (Nat.le_refl _)
   rw [Nat.sub_self,List.replicate_zero,List.append_nil]at h2
   conv=>rhs;rw [←h2]
   rw [List.map_map]
   refine List.map_congr_left fun i _=>?_
   simp only [Function.comp_apply]
   rw [if_pos (by omega),Nat.add_sub_cancel_left];grind
 rw [e2,dK,nW]
 have h3:=fO (t:=t) (-T) id y
 simp only [id_eq,List.map_id_fun]at h3
 rw [h3,List.length_replicate,show x.length-y.length=k by omega]
 grind
theorem p8{y x:List Int}(hy:0<y.length)(h:y.length≤x.length):(PY y x).length<x.length:=by
 have h1:=wX (b:=y) (r:=x) (i:=x.length-y.length) hy (by omega)
 rw [show sX y x (x.length-y.length)=lead x from by rw [sX,if_pos (by omega)]]at h1
 have e:PY y x=aX (tW y (lead y) (lead x) (x.length-y.length) x) (tZ (lead y)):=Cn.ext (Cn.eE _ _) (Cn.aX _ _) fun t=>by
  unfold PY
  rw [b8,tW,tW,gO,gO,b8,b8,cQ,cQ,lI,lI,←ac7]
  grind
 rw [e]
 have:=nF (tW y (lead y) (lead x) (x.length-y.length) x) (tZ (lead y))
 omega
theorem ZO(t:Int)(y x:List Int):((lead y).natAbs:Int)*V t x=t^(x.length-y.length)*(tZ (lead y)*lead x)*V t y+V t (PY y x):=by
 unfold PY
 rw [tW,gO,b8,cQ,lI];grind
def rq(y:List Int):Nat→List Int→List Int
 | 0,x=>x
 | n+1,x=>if x.length<y.length then x else rq y n (PY y x)
theorem aiS{y x:List Int}(h:x.length<y.length):∀n,rq y n x=x
 | 0=>rfl
 | n+1=>by rw [rq,if_pos h]
theorem P0{y:List Int}(cy:Cn y)(hy:0<y.length):∀(n:Nat) (x:List Int),Cn x→x.length<n→Cn (rq y n x)∧(rq y n x).length<y.length ∧ ∃(m:Int) (q:List Int),m≠0 ∧ ∀t,m*V t x=V t q*V t y+V t (rq y n x)
 | 0,x,_,h=>by omega
 | n+1,x,cx,h=>by
  rw [rq]
  split
  ·rename_i h1
   exact⟨cx,h1,1,[],by decide,fun t=>by simp [V]⟩
  ·rename_i h1
   have hl:=p8 hy (show y.length≤x.length by omega)
   obtain⟨h2,h3,m,q,hm,h4⟩:=P0 cy hy n (PY y x) (Cn.eE _ _) (by omega)
   have GB:=cM cy hy
   refine⟨h2,h3,m*(lead y).natAbs,gB q (aX (n6 (x.length-y.length) (tZ (lead y)*lead x)) m),Int.mul_ne_zero hm (by omega),fun t=>?_⟩
   have h5:=ZO t y x
   have h6:=h4 t
   rw [oT,b8,lI]
   have:m*((lead y).natAbs:Int)*V t x=m*(((lead y).natAbs:Int)*V t x):=by grind
   rw [this,h5]
   grind
theorem MV{s s' N:Nat}{y x:List Int}(p7:Bd 2 s' N y)(bx:Bd 2 s N x)(hy:0<y.length)(h:y.length≤x.length):Bd 2 (s+(s'+N+1)) N (PY y x):=by
 have hl:=p8 hy h
 have hlx:=bx.len
 have hls:sz 2 ((lead y).natAbs:Int)≤s':=Nat.le_trans (cS (by decide) (by rw [Int.natAbs_natCast];exact Nat.le_refl _)) (fE p7)
 have hlr:sz 2 (tZ (lead y)*lead x)≤s:=Nat.le_trans (cS (by decide) (by
  rw [Int.natAbs_mul]
  have:(tZ (lead y)).natAbs=1:=by unfold tZ;split<;>rfl
  rw [this,Nat.one_mul];exact Nat.le_refl _)) (fE bx)
 have b1:Bd 2 (s+s'+N) (max N (x.length-y.length+1+N)) (aX x ((lead y).natAbs:Int)):=(bx.aX (by decide) hls).mono (by omega) (by omega)
 have b2:Bd 2 (s+s'+N) (max N (x.length-y.length+1+N)) (bJ (n6 (x.length-y.length) (tZ (lead y)*lead x)) y):=((Bd.n6 hlr (x.length-y.length)).bJ (by decide) p7).mono (by omega) (by omega)
 exact⟨by omega,fun c hc=>by
  have h6:=(Bd.eE (by decide) b1 b2).sz c hc
  omega⟩
theorem afr{s' N:Nat}{y:List Int}(p7:Bd 2 s' N y)(hy:0<y.length):∀(n j s:Nat) (x:List Int),Bd 2 s N x→x.length+1≤y.length+j→Bd 2 (s+j*(s'+N+1)) N (rq y n x)
 | 0,j,s,x,bx,_=>bx.mono (by simp) (Nat.le_refl _)
 | n+1,j,s,x,bx,hj=>by
  rw [rq]
  split
  ·exact bx.mono (by simp) (Nat.le_refl _)
  ·rename_i h1
   obtain⟨i,rfl⟩:∃i,j=i+1:=⟨j-1,by omega⟩
   have hl:=p8 hy (show y.length≤x.length by omega)
   have:=afr p7 hy n i (s+(s'+N+1)) (PY y x) (MV p7 bx hy (by omega)) (by omega)
   rw [Nat.add_mul,Nat.one_mul]
   exact this.mono (by omega) (Nat.le_refl _)
theorem aiT(n:Nat):RI (n:Int) = .ag [aQ aG (aY DD n), .bool false]:=by
 simp [show ¬((n:Int)<0)by omega]
set_option maxHeartbeats 2000000 in
theorem CU{s s' N:Nat}{x0 y:List Int}(bx0:Bd 2 s N x0)(p7:Bd 2 s' N y)(cx0:Cn x0)(cy:Cn y)(L5:0<y.length)(hN:N≤1000)(hB:s+(x0.length+1-y.length+1)*(s'+N+1)<YY) :
  aL env.P 162 [PI x0,PI y] (PI (rq y (x0.length+1) x0)):=by
 have hlN:=bx0.len
 have hNy:=p7.len
 obtain⟨R,hR⟩:∃R,R=rq y (x0.length+1) x0:=⟨_,rfl⟩
 rw [←hR]
 obtain⟨M,hM⟩:∃M,M=s+(x0.length+1-y.length+1)*(s'+N+1):=⟨_,rfl⟩
 rw [←hM]at hB
 have hB:M<137438953472:=hB
 have hls:sz 2 ((lead y).natAbs:Int)≤s':=Nat.le_trans (cS (by decide) (by rw [Int.natAbs_natCast];exact Nat.le_refl _)) (fE p7)
 have e2:((y.length:Int)-1).toNat=y.length-1:=by omega
 have J1:nth y (y.length-1)=lead y:=rfl
 refine cD (E:=env) (fun id=>if id=16 then 2 else 0) [(0,PI x0),(1,PI y)] Tryz.func162 rfl (by kernel_rfl) (by kernel_rfl) (show 2≤78 by decide) (by simp) ?_
 refine aA [0,1] ?_
 refine W.sr ?_
 simp (disch:=omega) [gw,e2,J1]
 refine bM [0,1,5] ?_
 refine aA [0,1,5,6] ?_
 refine cL [0,1,5,6] ?_
 refine W.block ?_
 refine W.bC (fun n σ=>∃(x:List Int) (j u:Nat) (rows:Pm.Rows) (clk:Nat),σ=⟨fa [(0,PI x),(1,PI y),(5, .ptr 5 0 0 0),(6, .ptr 6 1 0 0)],rows,clk⟩ ∧
  rows 5=some ⟨0,29,2,[[aQ aG (aY DD (lead y).natAbs), .bool (decide (lead y<0))]]⟩∧rows 6=some ⟨1,29,2,[[aQ aG (aY DD (lead y).natAbs), .bool false]]⟩ ∧
  Cn x∧x.length<n∧rq y n x=R∧Bd 2 u N x∧x.length+1≤y.length+j∧u+(j+1)*(s'+N+1)≤M) (x0.length+1) ?_ ?_
 ·exact⟨_, .refl,x0,x0.length+1-y.length,s,_,_,rfl,by simp,by simp,cx0,by omega,hR.symm,bx0,by omega,by omega⟩
 rintro n _ ⟨x,j,u,rows,clk,rfl,lK,l8,cx,hxn,hxR,bx,hj,hu⟩
 have hlx:=bx.len
 refine aR [0,1,5,6,25] ?_
 refine bP ?_ ?_<;>intro h
 ·have h:y.length≤x.length:=by simp at h;omega
  obtain⟨n,rfl⟩:∃m,n=m+1:=⟨n-1,by omega⟩
  rw [rq,if_neg (by omega)]at hxR
  have hl2:=p8 L5 h
  obtain⟨k,hk⟩:∃k,k=x.length-y.length:=⟨_,rfl⟩
  have hkI:(x.length:Int)-(y.length:Int)=k:=by omega
  have e1:((x.length:Int)-1).toNat=x.length-1:=by omega
  have hxl:nth x (x.length-1)=lead x:=rfl
  have apa:=ZN h
  have b2:=MV p7 bx L5 h
  have hlX:sz 2 (lead x)≤u:=fE bx
  have hu1:u+(s'+N+1)≤M:=by
   have:=Nat.le_mul_of_pos_left (s'+N+1) (show 0<j+1 by omega)
   omega
  refine W.skip ?_
  refine W.block ?_
  refine W.sr ?_
  simp (disch:=omega) [gw,hkI]
  refine bM [0,1,5,6,7] ?_
  refine W.sr ?_
  simp (disch:=omega) [gw,e1,hxl]
  refine bM [0,1,5,6,7,8] ?_
  obtain⟨T,hT⟩:∃T,T=tZ (lead y)*lead x:=⟨_,rfl⟩
  have hTs:sz 2 T≤u:=Nat.le_trans (cS (by decide) (by
   rw [hT,Int.natAbs_mul]
   have:(tZ (lead y)).natAbs=1:=by unfold tZ;split<;>rfl
   rw [this,Nat.one_mul];exact Nat.le_refl _)) hlX
  have hTp:(lead y<0→T = -lead x)∧(¬lead y<0→T=lead x):=by
   rw [hT];unfold tZ
   constructor
   ·intro h;rw [if_pos h];omega
   ·intro h;rw [if_neg h];omega
  refine W.iF (fun σ=>∃(v:Nat) (rows:Pm.Rows) (clk:Nat),σ=⟨fa [(0,PI x),(1,PI y),(5, .ptr 5 0 0 0),(6, .ptr 6 1 0 0),(7, .int .i64 k),(8, .ptr 8 v 0 0)],rows,clk⟩ ∧
   rows 5=some ⟨0,29,2,[[aQ aG (aY DD (lead y).natAbs), .bool (decide (lead y<0))]]⟩∧rows 6=some ⟨1,29,2,[[aQ aG (aY DD (lead y).natAbs), .bool false]]⟩ ∧
   rows 8=some ⟨v,29,2,[[aQ aG (aY DD T.natAbs), .bool (decide (T<0))]]⟩) ?_ ?_
  ·refine W.sr ?_
   simp (disch:=omega) [gw,lK]
   refine bM [0,1,5,6,7,8,39] ?_
   refine bP ?_ ?_<;>intro h
   ·have h:lead y<0:=by simpa using h
    have XW:=mN (lead x)
    rw [←hTp.1 h]at XW
    refine W.cG (fun K hK=>?_)
    simp (disch:=omega) [gw]
    refine cX XW ?_
    exact hK _ ⟨_,aD _ [0,1,5,6,7,8],_,_,_,rfl,by simp [lK],by simp [l8],by simp⟩
   ·have h:¬lead y<0:=by simpa using h
    rw [hTp.2 h]
    refine W.skip ?_
    exact⟨_,aD _ [0,1,5,6,7,8],_,_,_,rfl,by simp [lK],by simp [l8],by simp⟩
  clear lK l8 rows clk
  rintro _ ⟨v8,rows,clk,rfl,lK,l8,wO⟩
  refine aA [0,1,5,6,7,8,9] ?_
  refine W.nil 9 9 31 4 (by simp) (by decide) (fun K hK=>?_)
  refine W.lw [0,1,5,6,7,8,9] hK ?_;clear hK K;simp
  refine aR [0,1,5,6,7,8,9,43,44] ?_
  refine W.block ?_
  refine W.bC (fun m σ=>∃(i v9:Nat) (rows:Pm.Rows) (clk:Nat),σ=⟨fa [(0,PI x),(1,PI y),(5, .ptr 5 0 0 0),(6, .ptr 6 1 0 0),(7, .int .i64 k),(8, .ptr 8 v8 0 0),(9, .own 9 v9 0 i),(43, .int .i64 x.length),(44, .int .i64 i)],rows,clk⟩ ∧
   rows 5=some ⟨0,29,2,[[aQ aG (aY DD (lead y).natAbs), .bool (decide (lead y<0))]]⟩∧rows 6=some ⟨1,29,2,[[aQ aG (aY DD (lead y).natAbs), .bool false]]⟩ ∧
   rows 8=some ⟨v8,29,2,[[aQ aG (aY DD T.natAbs), .bool (decide (T<0))]]⟩∧rows 9=some ⟨v9,31,4,emap ri ((List.range i).map (PZ y x))⟩∧i+m=x.length) x.length ?_ ?_
  ·exact⟨_,aD _ [0,1,5,6,7,8,9,43,44],0,_,_,_,rfl,by simp [lK],by simp [l8],by simp [wO],by simp [emap],by omega⟩
  clear lK l8 wO rows clk
  rintro m _ ⟨i,v9,rows,clk,rfl,lK,l8,wO,IU,him⟩
  have sC:((List.range i).map (PZ y x)).length=i:=by simp
  refine cL [0,1,5,6,7,8,9,43,44,45] ?_
  refine bP ?_ ?_<;>intro h
  ·have hi:i<x.length:=by simp at h;omega
   have hxi:=bx.nth i
   have m1:=dU (nth x i) ((lead y).natAbs:Int) (by show sz 2 _<1099511627776;omega) (by show sz 2 _<1099511627776;omega)
   rw [aiT]at m1
   have s1:sz 2 (nth x i*((lead y).natAbs:Int))≤u+s':=b5 (by decide) hxi hls
   have er:(List.range (i+1)).map (PZ y x)=(List.range i).map (PZ y x) ++ [PZ y x i]:=by
    rw [List.range_succ,List.map_append];rfl
   have hF:PZ y x i=nth x i*((lead y).natAbs:Int)-if k≤i then T*nth y (i-k)else 0:=by unfold PZ;rw [hk,hT]
   generalize (List.range i).map (PZ y x)=acc at *
   generalize hP:nth x i*((lead y).natAbs:Int)=P at *
   refine kK ?_
   refine aA [0,1,5,6,7,8,9,10,43,44] ?_
   refine W.sd ?_
   simp (disch:=omega) [gw,l8]
   refine cX m1 ?_
   rw [if_pos (by kernel_rfl)]
   simp (disch:=omega) [gw]
   refine bM [0,1,5,6,7,8,9,10,11,43,44] ?_
   generalize hQ:PZ y x i=Q at *
   have sQ:sz 2 Q≤u+(s'+N+1):=by
    have Q6:sz 2 (nth y (i-k))≤s':=p7.nth _
    rw [hF]
    split
    ·have:=b5 (b:=2) (by decide) hTs Q6
     have h1:=l6 (b:=2) (by decide) (x:=P) (y := -(T*nth y (i-k))) (k:=u+s') s1 (by rw [nD];exact this)
     rw [←Int.sub_eq_add_neg]at h1
     omega
    ·rw [Int.sub_zero];omega
   refine W.iF (fun σ=>∃(v11:Nat) (rows:Pm.Rows) (clk:Nat),σ=⟨fa [(0,PI x),(1,PI y),(5, .ptr 5 0 0 0),(6, .ptr 6 1 0 0),(7, .int .i64 k),(8, .ptr 8 v8 0 0),(9, .own 9 v9 0 i),(11, .ptr 11 v11 0 0),(43, .int .i64 x.length),(44, .int .i64 i)],rows,clk⟩ ∧
    rows 5=some ⟨0,29,2,[[aQ aG (aY DD (lead y).natAbs), .bool (decide (lead y<0))]]⟩∧rows 6=some ⟨1,29,2,[[aQ aG (aY DD (lead y).natAbs), .bool false]]⟩ ∧
    rows 8=some ⟨v8,29,2,[[aQ aG (aY DD T.natAbs), .bool (decide (T<0))]]⟩∧rows 9=some ⟨v9,31,4,emap ri acc⟩ ∧
    rows 11=some ⟨v11,29,2,[[aQ aG (aY DD Q.natAbs), .bool (decide (Q<0))]]⟩) ?_ ?_
   ·refine aA [0,1,5,6,7,8,9,10,11,43,44,56] ?_
    refine bP ?_ ?_<;>intro h
    ·have hki:k≤i:=by simp at h;omega
     rw [if_pos hki]at hF
     have eik:(i:Int)-(k:Int)=((i-k:Nat):Int):=by omega
     have hyb:i-k<y.length:=by omega
     have m2:=dU T (nth y (i-k)) (by show sz 2 _<1099511627776;omega) (by have:=p7.nth (i-k);show sz 2 _<1099511627776;omega)
     have s2:=b5 (b:=2) (by decide) hTs (p7.nth (i-k))
     have m3:=H5 P (T*nth y (i-k)) (by show sz 2 _<1099511627776;omega) (by show sz 2 _<1099511627776;omega)
     rw [←hF]at m3
     generalize T*nth y (i-k)=P2 at *
     refine W.LV (fun K hK=>?_)
     simp (disch:=omega) [gw,wO,eik]
     refine cX m2 ?_
     refine cX m3 ?_
     refine cU (by kernel_rfl) ?_
     simp (disch:=omega) [gw]
     exact hK _ ⟨_,aD _ [0,1,5,6,7,8,9,11,43,44],_,_,_,rfl,by simp [lK],by simp [l8],by simp [wO],by simp [IU],by simp⟩
    ·have hki:¬k≤i:=by simp at h;omega
     rw [if_neg hki,Int.sub_zero]at hF
     rw [hF]
     refine W.skip ?_
     exact⟨_,aD _ [0,1,5,6,7,8,9,11,43,44],_,_,_,rfl,by simp [lK],by simp [l8],by simp [wO],by simp [IU],by simp⟩
   clear lK l8 wO IU rows clk
   rintro _ ⟨v11,rows,clk,rfl,lK,l8,wO,IU,E3⟩
   have o1:=nJ 1 (by decide) (by decide)
   have mk:=CI Q (by show sz 2 Q<549755813888;omega)
   refine W.LV (fun K hK=>?_)
   rw [if_pos rfl,eH]
   simp (disch:=omega) [gw,E3]
   refine cX o1 ?_
   refine aC mk ?_
   simp (disch:=omega) [gw,IU,sC]
   refine W.lw [0,1,5,6,7,8,9,43,44] hK ?_;clear hK K;simp
   refine W.cG (fun K hK=>?_);simp (disch:=omega) [gw]
   refine hK _ ⟨m-1,_,aD _ [0,1,5,6,7,8,9,43,44],by omega,i+1,_,_,_,rfl,by simp [lK],by simp [l8],by simp [wO],by rw [er];simp,by omega⟩
  ·have hi:i=x.length:=by simp at h;omega
   subst hi
   have eY:((List.range x.length).map (PZ y x)).length=x.length:=by simp
   generalize (List.range x.length).map (PZ y x)=acc at *
   have ez:=bG eY
   have nH:=mO acc (by omega)
   rw [apa]at nH
   refine fC ?_
   refine W.cG (fun K hK=>?_)
   simp (disch:=omega) [gw,IU,ez]
   refine cX nH ?_
   obtain⟨j,rfl⟩:∃i,j=i+1:=⟨j-1,by omega⟩
   rw [Nat.add_mul,Nat.one_mul]at hu
   refine hK _ ⟨n,_,aD _ [0,1,5,6],by omega,PY y x,j,u+(s'+N+1),_,_,rfl,by simp [lK],by simp [l8],Cn.eE _ _,by omega,hxR,b2,by omega,by omega⟩
 ·have h:x.length<y.length:=by simp at h;omega
  rw [aiS h]at hxR
  subst hxR
  refine fC ?_
  refine aA [4] ?_
  exact cR
end Go.Proofs.YtiobceocpabjdaaGreat
