import Derived.Test.YtelhfbikiccfkaaGreatDaf
import Derived.Test.YtelhfbikiccfkaaGreatDam
set_option linter.unusedSimpArgs false
set_option linter.unusedVariables false
namespace Pm
structure ZX where
 l:List Int
 c:Cn l
namespace ZX
theorem ext{x y:ZX}(h:∀t,V t x.l=V t y.l):x=y:=by
 obtain⟨x,hx⟩:=x
 obtain⟨y,hy⟩:=y
 have:=Cn.ext hx hy h
 subst this
 rfl
def of(x:List Int):ZX:=⟨aL x,Cn.cut x⟩
def K(c:Int):ZX:=of [c]
instance:Zero ZX:=⟨⟨[],Cn.nil⟩⟩
instance:One ZX:=⟨K 1⟩
instance:Add ZX:=⟨fun x y=>⟨fL x.l y.l,Cn.fL _ _⟩⟩
instance:Mul ZX:=⟨fun x y=>⟨bH x.l y.l,Cn.bH _ _⟩⟩
instance:Neg ZX:=⟨fun x=>⟨fU x.l,Cn.fU _⟩⟩
instance:Sub ZX:=⟨fun x y=>⟨dJ x.l y.l,Cn.dJ _ _⟩⟩
def pow(x:ZX):Nat→ZX
 | 0=>1
 | n+1=>pow x n*x
instance:HPow ZX Nat ZX:=⟨pow⟩
instance:NatCast ZX:=⟨fun n=>K n⟩
instance (n:Nat):OfNat ZX n:=⟨K n⟩
instance:IntCast ZX:=⟨fun n=>K n⟩
instance:SMul Nat ZX:=⟨fun n x=>K n*x⟩
instance:SMul Int ZX:=⟨fun n x=>K n*x⟩
variable {t:Int}
theorem abf(x:List Int):V t (of x).l=V t x:=dF x
theorem yL(c:Int):V t (K c).l=c:=by rw [K,abf];simp [V]
theorem wR:V t (0:ZX).l=0:=yL 0
theorem IX:V t (1:ZX).l=1:=yL 1
theorem nD(x y:ZX):V t (x+y).l=V t x.l+V t y.l:=qS _ _
theorem eK(x y:ZX):V t (x*y).l=V t x.l*V t y.l:=dP _ _
theorem IY(x:ZX):V t (-x).l = -V t x.l:=wF _
theorem ave(x y:ZX):V t (x-y).l=V t x.l-V t y.l:=iH _ _
theorem YH(x:ZX):∀n:Nat,V t (x^n).l=V t x.l^n
 | 0=>by show V t (1:ZX).l=_;rw [IX,Int.pow_zero]
 | n+1=>by show V t ((x^n)*x).l=_;rw [eK,YH x n,Int.pow_succ]
theorem YI(n:Nat):V t (OfNat.ofNat n:ZX).l=n:=yL n
theorem alv(n:Int):V t (n:ZX).l=n:=yL n
theorem YJ(n:Int)(x:ZX):V t (n • x).l=n*V t x.l:=by show V t (K n*x).l=_;rw [eK,yL]
instance:Lean.Grind.CommRing ZX where
 add_zero x:=ext fun t=>by rw [nD,wR];omega
 add_comm x y:=ext fun t=>by rw [nD,nD];omega
 add_assoc x y z:=ext fun t=>by simp only [nD];omega
 mul_assoc x y z:=ext fun t=>by simp only [eK];grind
 mul_one x:=ext fun t=>by rw [eK,IX];omega
 one_mul x:=ext fun t=>by rw [eK,IX];omega
 left_distrib x y z:=ext fun t=>by simp only [eK,nD];grind
 right_distrib x y z:=ext fun t=>by simp only [eK,nD];grind
 zero_mul x:=ext fun t=>by rw [eK,wR];omega
 mul_zero x:=ext fun t=>by rw [eK,wR];omega
 pow_zero x:=ext fun t=>by rw [YH,IX,Int.pow_zero]
 pow_succ x n:=ext fun t=>by rw [eK,YH,YH,Int.pow_succ]
 ofNat_succ n:=ext fun t=>by rw [nD,YI,YI,IX];omega
 ofNat_eq_natCast n:=rfl
 nsmul_eq_natCast_mul n x:=rfl
 neg_add_cancel x:=ext fun t=>by rw [nD,IY,wR];omega
 sub_eq_add_neg x y:=ext fun t=>by rw [ave,nD,IY];omega
 neg_zsmul n x:=ext fun t=>by rw [YJ,IY,YJ];grind
 zsmul_natCast_eq_nsmul n x:=rfl
 intCast_ofNat n:=rfl
 intCast_neg n:=ext fun t=>by rw [alv,IY,alv]
 mul_comm x y:=ext fun t=>by rw [eK,eK,Int.mul_comm]
def N(x:ZX):Nat:=x.l.length
theorem aI{x:ZX}:x≠0↔0<N x:=by
 constructor
 ·intro h
  rcases Nat.eq_zero_or_pos (N x)with h1 | h1
  ·exfalso
   apply h
   have:x.l = []:=List.eq_nil_of_length_eq_zero h1
   exact ext fun t=>by rw [this,wR];rfl
  ·exact h1
 ·rintro h rfl
  have:N (0:ZX)=0:=by decide
  omega
theorem aei:N (0:ZX)=0:=by decide
theorem oH{x y:ZX}(hx:x≠0)(hy:y≠0):N (x*y)=N x+N y-1:=kE x.c y.c (aI.1 hx) (aI.1 hy)
theorem tU{x y:ZX}(hx:x≠0)(hy:y≠0):x*y≠0:=by
 rw [aI,oH hx hy]
 have:=aI.1 hx
 have:=aI.1 hy
 omega
theorem tV{x y:ZX}(h:x*y=0):x=0∨y=0:=by
 by_cases hx:x=0
 ·exact .inl hx
 ·by_cases hy:y=0
  ·exact .inr hy
  ·exact absurd h (tU hx hy)
theorem IZ(x y:ZX):x*y=y*x:=by grind
theorem cancel{x y z:ZX}(hz:z≠0)(h:z*x=z*y):x=y:=by
 have h1:z*(x-y)=0:=by grind
 rcases tV h1 with h2 | h2
 ·exact absurd h2 hz
 ·grind
theorem sJ{c:Int}(h:c≠0):K c≠0:=fun e=>h (by
 have:=yL (t:=0) c
 rw [e,wR]at this;omega)
theorem N_K{c:Int}(h:c≠0):N (K c)=1:=by
 show(aL [c]).length=1
 rw [show aL [c] = [c]from iZ h []];rfl
theorem qG(c d:Int):K c*K d=K (c*d):=ext fun t=>by rw [eK,yL,yL,yL]
theorem lC{x:ZX}(h:N x=1):∃c,c≠0∧x=K c:=by
 obtain⟨l,hl⟩:=x
 match l,hl,h with
 | [c],hl,_ =>
  have hc:c≠0:=by
   have:=dK hl (by simp)
   simpa [lead,uM]using this
  exact⟨c,hc,ext fun t=>by rw [yL];simp [V]⟩
theorem nQ{c:Int}{x y q:ZX}(hc:c≠0)(hx:x≠0)(h:K c*x=q*y):q≠0∧y≠0:=by
 have h1:=tU (sJ hc) hx
 rw [h]at h1
 constructor
 ·rintro rfl;apply h1;grind
 ·rintro rfl;apply h1;grind
theorem oI:(1:ZX)≠0:=sJ (by decide)
theorem r9:N (1:ZX)=1:=N_K (by decide)
def dv(y x:ZX):Prop:=∃c:Int,c≠0 ∧ ∃q,K c*x=q*y
theorem dv.refl(x:ZX):dv x x:=⟨1,by decide,K 1,rfl⟩
theorem dv.zero(x:ZX):dv x 0:=⟨1,by decide,0,by grind⟩
theorem dv.trans{x y z:ZX}(h1:dv x y)(h2:dv y z):dv x z:=by
 obtain⟨c,hc,q,h1⟩:=h1
 obtain⟨d,hd,r,h2⟩:=h2
 exact⟨c*d,Int.mul_ne_zero hc hd,q*r,by rw [←qG];grind⟩
theorem dv.mul_right{x y:ZX}(h:dv x y)(z:ZX):dv x (y*z):=by
 obtain⟨c,hc,q,h⟩:=h
 exact⟨c,hc,q*z,by grind⟩
theorem dv.mul_left{x y:ZX}(h:dv x y)(z:ZX):dv x (z*y):=by
 obtain⟨c,hc,q,h⟩:=h
 exact⟨c,hc,q*z,by grind⟩
theorem dv.mul{x y z w:ZX}(h1:dv x y)(h2:dv z w):dv (x*z) (y*w):=by
 obtain⟨c,hc,q,h1⟩:=h1
 obtain⟨d,hd,r,h2⟩:=h2
 exact⟨c*d,Int.mul_ne_zero hc hd,q*r,by rw [←qG];grind⟩
theorem dv.add{x y z:ZX}(h1:dv x y)(h2:dv x z):dv x (y+z):=by
 obtain⟨c,hc,q,h1⟩:=h1
 obtain⟨d,hd,r,h2⟩:=h2
 exact⟨c*d,Int.mul_ne_zero hc hd,K d*q+K c*r,by rw [←qG];grind⟩
theorem dv.HD{x y:ZX}{c:Int}(hc:c≠0)(h:dv x (K c*y)):dv x y:=by
 obtain⟨d,hd,q,h⟩:=h
 exact⟨d*c,Int.mul_ne_zero hd hc,q,by rw [←qG];grind⟩
theorem dv.mD{x y:ZX}(h:dv x y)(hy:y≠0):N x≤N y:=by
 obtain⟨c,hc,q,h⟩:=h
 obtain⟨h1,h2⟩:=nQ hc hy h
 have h3:N (K c*y)=N y:=by rw [oH (sJ hc) hy,N_K hc];have:=aI.1 hy;omega
 rw [h,oH h1 h2]at h3
 have:=aI.1 h1
 omega
theorem dv.ne{x y:ZX}(h:dv x y)(hy:y≠0):x≠0:=by
 obtain⟨c,hc,q,h⟩:=h
 exact(nQ hc hy h).2
theorem C4{x:ZX}(h:dv 0 x):x=0:=by
 obtain⟨c,hc,q,h⟩:=h
 have h2:K c*x=0:=by grind
 exact(tV h2).resolve_left (sJ hc)
theorem avf{c:Int}(hc:c≠0)(x:ZX):dv (K c) x:=⟨c,hc,x,by grind⟩
theorem ai5{x y:ZX}(h:dv x y)(hy:y≠0)(hN:N x=N y):dv y x:=by
 obtain⟨c,hc,q,h⟩:=h
 obtain⟨h1,h2⟩:=nQ hc hy h
 have h3:N (K c*y)=N y:=by rw [oH (sJ hc) hy,N_K hc];have:=aI.1 hy;omega
 rw [h,oH h1 h2]at h3
 have h4:=aI.1 h1
 have h5:=aI.1 h2
 obtain⟨d,hd,rfl⟩:=lC (x:=q) (by omega)
 exact⟨d,hd,K c,by rw [h]⟩
theorem apa(a:ZX){b:ZX}(hb:b≠0):∃c:Int,c≠0 ∧ ∃q r,K c*a=q*b+r∧N r<N b:=by
 have h0:=aI.1 hb
 obtain⟨c1,c2⟩:=EL (b:=b.l) a.c
 refine⟨lead b.l^jW a.l b.l,Int.pow_ne_zero (dK b.c h0),⟨_,c1⟩,⟨_,c2⟩,ext fun t=>?_,?_⟩
 ·rw [eK,yL,nD,eK]
  exact(adW t a.l b.l).symm
 ·have:=KW (a:=a.l) h0
  show(BG a.l b.l).2.length<b.l.length
  have:0<b.l.length:=h0
  omega
structure sK(g a b:ZX):Prop where
 l:dv g a
 r:dv g b
 uv:∃c:Int,c≠0 ∧ ∃u v,K c*g=u*a+v*b
theorem sK.least{g a b d:ZX}(h:sK g a b)(ha:dv d a)(hb:dv d b):dv d g:=by
 obtain⟨c,hc,u,v,e⟩:=h.uv
 refine dv.HD hc ?_
 rw [e]
 exact(ha.mul_left u).add (hb.mul_left v)
theorem sK.ne{g a b:ZX}(h:sK g a b)(ha:a≠0∨b≠0):g≠0:=by
 rintro rfl
 rcases ha with h1 | h1
 ·exact h1 (C4 h.l)
 ·exact h1 (C4 h.r)
theorem sK.zero(a:ZX):sK a a 0:=⟨dv.refl a,dv.zero a,1,by decide,1,0,by show(1:ZX)*a=_;grind⟩
theorem sK.symm{g a b:ZX}(h:sK g a b):sK g b a:=by
 obtain⟨c,hc,u,v,e⟩:=h.uv
 exact⟨h.r,h.l,c,hc,v,u,by grind⟩
theorem sK.step{g a b q r:ZX}{c:Int}(hc:c≠0)(e:K c*a=q*b+r)(h:sK g b r):sK g a b:=by
 obtain⟨d,hd,u,v,e2⟩:=h.uv
 refine⟨dv.HD hc ?_,h.l,d,hd,v*K c,u-v*q,by grind⟩
 rw [e]
 exact(h.l.mul_left q).add h.r
theorem j3:∀(n:Nat) (a b:ZX),N b≤n → ∃g,sK g a b
 | 0,a,b,h=>by
  have:b=0:=Classical.byContradiction fun hb=>by have:=aI.1 hb;omega
  subst this
  exact⟨a,sK.zero a⟩
 | n+1,a,b,h=>by
  by_cases hb:b=0
  ·subst hb;exact⟨a,sK.zero a⟩
  ·obtain⟨c,hc,q,r,e,hr⟩:=apa a hb
   obtain⟨g,hg⟩:=j3 n b r (by omega)
   exact⟨g,hg.step hc e⟩
structure rG(p:ZX):Prop where
 deg:2≤N p
 irr:∀d,dv d p→N d=1∨N d=N p
theorem rG.ne{p:ZX}(h:rG p):p≠0:=aI.2 (by have:=h.deg;omega)
theorem rG.alx{p a b:ZX}(hp:rG p)(h:dv p (a*b)):dv p a∨dv p b:=by
 obtain⟨g,hg⟩:=j3 _ p a (Nat.le_refl _)
 rcases hp.irr g hg.l with h1 | h1
 ·right
  obtain⟨k,hk,rfl⟩:=lC h1
  obtain⟨c,hc,u,v,e⟩:=hg.uv
  refine dv.HD (c:=c*k) (Int.mul_ne_zero hc hk) ?_
  have e2:K (c*k)*b=(u*b)*p+v*(a*b):=by rw [←qG];grind
  rw [e2]
  exact((dv.refl p).mul_left _).add (h.mul_left v)
 ·left
  exact(ai5 hg.l hp.ne h1).trans hg.r
theorem oJ:∀(n:Nat) (a:ZX),N a≤n→2≤N a → ∃p,rG p∧dv p a
 | 0,a,h,h2=>by omega
 | n+1,a,h,h2=>by
  by_cases hi:∃d,dv d a∧N d≠1∧N d≠N a
  ·obtain⟨d,hd,h3,h4⟩:=hi
   have h5:=hd.mD (aI.2 (by omega))
   have h6:=aI.1 (hd.ne (aI.2 (by omega)))
   obtain⟨p,hp,hpd⟩:=oJ n d (by omega) (by omega)
   exact⟨p,hp,hpd.trans hd⟩
  ·refine⟨a,⟨h2,fun d hd=>?_⟩,dv.refl a⟩
   by_cases h3:N d=1
   ·exact .inl h3
   ·by_cases h4:N d=N a
    ·exact .inr h4
    ·exact absurd ⟨d,hd,h3,h4⟩ hi
theorem pow_succ'(p:ZX)(k:Nat):p^(k+1)=p^k*p:=rfl
theorem fV(p:ZX):p^0=1:=rfl
theorem pow_add'(p:ZX)(j:Nat):∀k,p^(j+k)=p^j*p^k
 | 0=>by rw [Nat.add_zero,fV];grind
 | k+1=>by rw [←Nat.add_assoc,pow_succ',pow_succ',pow_add' p j k];grind
theorem LQ{p:ZX}(hp:p≠0):∀k:Nat,p^k≠0
 | 0=>oI
 | k+1=>tU (LQ hp k) hp
theorem aly{p:ZX}(hp:rG p):∀k:Nat,k<N (p^k)
 | 0=>by rw [fV,r9];omega
 | k+1=>by
  rw [pow_succ',oH (LQ hp.ne k) hp.ne]
  have:=aly hp k
  have:=hp.deg
  omega
theorem aeX{p:ZX}{j k:Nat}(h:j≤k):dv (p^j) (p^k):=by
 obtain⟨d,rfl⟩:=Nat.exists_eq_add_of_le h
 rw [pow_add']
 exact(dv.refl _).mul_right _
theorem abg{p a:ZX}(hp:rG p)(ha:a≠0):∃k,dv (p^k) a∧¬dv (p^(k+1)) a:=by
 have key:∀n,(∃k,k≤n∧dv (p^k) a∧¬dv (p^(k+1)) a)∨dv (p^(n+1)) a:=by
  intro n
  induction n with
  | zero =>
   by_cases h:dv (p^1) a
   ·exact .inr h
   ·exact .inl ⟨0,Nat.le_refl _,avf (by decide) a,h⟩
  | succ n ih =>
   rcases ih with ⟨k,h1,h2⟩ | ih
   ·exact .inl ⟨k,by omega,h2⟩
   ·by_cases h:dv (p^(n+2)) a
    ·exact .inr h
    ·exact .inl ⟨n+1,Nat.le_refl _,ih,h⟩
 rcases key (N a)with ⟨k,_,h⟩ | h
 ·exact⟨k,h⟩
 ·have h1:=h.mD ha
  have h2:=aly hp (N a+1)
  omega
open Classical in
noncomputable def mu(p a:ZX):Nat:=if h:∃k,dv (p^k) a∧¬dv (p^(k+1)) a then h.choose else 0
theorem YK{p a:ZX}(hp:rG p)(ha:a≠0):dv (p^mu p a) a∧¬dv (p^(mu p a+1)) a:=by
 have h:=abg hp ha
 unfold mu
 rw [dif_pos h]
 exact h.choose_spec
theorem nE{p a:ZX}(hp:rG p)(ha:a≠0){k:Nat}:k≤mu p a↔dv (p^k) a:=by
 obtain⟨h1,h2⟩:=YK hp ha
 constructor
 ·intro h;exact(aeX h).trans h1
 ·intro h
  rcases Nat.lt_or_ge (mu p a) k with h3 | h3
  ·exact absurd ((aeX h3).trans h) h2
  ·exact h3
theorem FE{p a:ZX}(hp:rG p)(ha:a≠0):∃c:Int,c≠0 ∧ ∃b,b≠0∧K c*a=b*p^mu p a∧¬dv p b:=by
 obtain⟨⟨c,hc,b,e⟩,h2⟩:=YK hp ha
 refine⟨c,hc,b,(nQ hc ha e).1,e,fun h=>h2 (dv.HD hc ?_)⟩
 rw [e,pow_succ']
 have:=h.mul (dv.refl (p^mu p a))
 rw [show p^mu p a*p=p*p^mu p a by grind]
 exact this
theorem AB{p a b:ZX}(hp:rG p)(ha:a≠0){c:Int}(hc:c≠0){k:Nat}(e:K c*a=b*p^k)(h:¬dv p b):mu p a=k:=by
 have h1:k≤mu p a:=(nE hp ha).2 ⟨c,hc,b,e⟩
 rcases Nat.lt_or_ge k (mu p a)with h2 | h2
 ·exfalso
  obtain⟨d,hd,r,e2⟩:=(nE hp ha).1 h2
  apply h
  refine⟨d,hd,K c*r,ZX.cancel (LQ hp.ne k) ?_⟩
  rw [pow_succ']at e2
  grind
 ·omega
theorem wS{p a b:ZX}(hp:rG p)(ha:a≠0)(hb:b≠0):mu p (a*b)=mu p a+mu p b:=by
 obtain⟨c,hc,x,_,e1,h1⟩:=FE hp ha
 obtain⟨d,hd,y,_,e2,h2⟩:=FE hp hb
 refine AB (b:=x*y) hp (tU ha hb) (Int.mul_ne_zero hc hd) ?_ fun h=>?_
 ·rw [pow_add',←qG];grind
 ·rcases hp.alx h with h3 | h3
  ·exact h1 h3
  ·exact h2 h3
theorem abh{p:ZX}(hp:rG p){c:Int}(hc:c≠0):mu p (K c)=0:=by
 refine AB (b:=K c) (c:=1) hp (sJ hc) (by decide) (by rw [fV];show(1:ZX)*K c=_;grind) fun h=>?_
 have:=h.mD (sJ hc)
 rw [N_K hc]at this
 have:=hp.deg
 omega
theorem YL{p a b:ZX}(hp:rG p)(hb:b≠0)(h:dv a b):mu p a≤mu p b:=(nE hp hb).2 (((nE hp (h.ne hb)).1 (Nat.le_refl _)).trans h)
theorem alz{p a b q:ZX}(hp:rG p){c:Int}(hc:c≠0)(ha:a≠0)(e:K c*a=q*b):mu p a=mu p q+mu p b:=by
 obtain⟨h1,h2⟩:=nQ hc ha e
 rw [←wS hp h1 h2,←e,wS hp (sJ hc) ha,abh hp hc];omega
theorem QD:∀(n:Nat) (a b:ZX),N a≤n→a≠0→b≠0→(∀p,rG p→mu p a≤mu p b)→dv a b
 | 0,a,b,hn,ha,_,_=>by have:=aI.1 ha;omega
 | n+1,a,b,hn,ha,hb,h=>by
  rcases Nat.lt_or_ge (N a) 2 with h1 | h1
  ·obtain⟨c,hc,rfl⟩:=lC (x:=a) (by have:=aI.1 ha;omega)
   exact avf hc b
  ·obtain⟨p,hp,hpa⟩:=oJ _ a (Nat.le_refl _) h1
   have h2:1≤mu p a:=(nE hp ha).2 (by rw [show p^1=p by rw [pow_succ',fV];grind];exact hpa)
   have h3:dv p b:=by
    have:=(nE hp hb).1 (Nat.le_trans h2 (h p hp))
    rwa [show p^1=p by rw [pow_succ',fV];grind]at this
   obtain⟨c,hc,a',ea⟩:=hpa
   obtain⟨d,hd,b',eb⟩:=h3
   obtain⟨RX,_⟩:=nQ hc ha ea
   obtain⟨GO,_⟩:=nQ hd hb eb
   have h4:N (K c*a)=N a:=by rw [oH (sJ hc) ha,N_K hc];have:=aI.1 ha;omega
   have h5:dv a' b':=QD n a' b' (by
    rw [ea,oH RX hp.ne]at h4
    have:=hp.deg
    omega) RX GO fun r hr=>by
    have h6:=h r hr
    rw [alz hr hc ha ea,alz hr hd hb eb]at h6
    omega
   refine dv.HD hd ?_
   rw [eb]
   have h7:=h5.mul (dv.refl p)
   rw [←ea]at h7
   obtain⟨e,he,q,e3⟩:=h7
   exact⟨e,he,q*K c,by grind⟩
theorem nX{a b:ZX}(ha:a≠0)(hb:b≠0):dv a b ↔ ∀p,rG p→mu p a≤mu p b:=⟨fun h p hp=>YL hp hb h,QD _ a b (Nat.le_refl _) ha hb⟩
theorem sK.mu{g a b p:ZX}(h:sK g a b)(ha:a≠0)(hb:b≠0)(hp:rG p):mu p g=min (ZX.mu p a) (ZX.mu p b):=by
 have hg:=h.ne (.inl ha)
 have h1:=YL hp ha h.l
 have h2:=YL hp hb h.r
 have h3:min (ZX.mu p a) (ZX.mu p b)≤ZX.mu p g:=(nE hp hg).2 (h.least ((nE hp ha).1 (Nat.min_le_left _ _)) ((nE hp hb).1 (Nat.min_le_right _ _)))
 omega
def AD(x:List Int):List Int:=(List.range (x.length-1)).map fun i=>nth x (i+1)*((i+1:Nat):Int)
def sL:Nat→List Int→List Int
 | _,[]=>[]
 | k,a::l=>a*(k:Int)::sL (k+1) l
def W(t:Int):List Int→Int
 | []=>0
 | _::l=>V t l+t*W t l
theorem YM:∀(l:List Int) (k:Nat),sL k l=(List.range l.length).map fun i=>nth l i*((k+i:Nat):Int)
 | [],k=>rfl
 | a::l,k=>by
  rw [sL,YM l (k+1),List.length_cons,List.range_succ_eq_map,List.map_cons,List.map_map]
  congr 1
  refine List.map_congr_left fun i _=>?_
  simp only [Function.comp_apply,kF]
  rw [show k+1+i=k+(i+1)by omega]
theorem I0(a:Int)(l:List Int):AD (a::l)=sL 1 l:=by
 rw [YM,AD,List.length_cons,Nat.add_sub_cancel]
 refine List.map_congr_left fun i _=>?_
 rw [kF,show i+1=1+i by omega]
theorem BS(t:Int):∀(l:List Int) (k:Nat),V t (sL (k+1) l)=V t (sL k l)+V t l
 | [],k=>by simp [sL,V]
 | a::l,k=>by
  simp only [sL,V]
  rw [BS t l (k+1)]
  have:((k+1:Nat):Int)=(k:Int)+1:=by omega
  rw [this];grind
theorem FF(t:Int):∀l:List Int,V t (sL 1 l)=V t l+t*W t l
 | []=>by simp [sL,V,W]
 | b::m=>by
  rw [sL]
  simp only [V,W]
  rw [BS,FF t m]
  rw [show((1:Nat):Int)=1 from rfl]
  grind
theorem apb(t:Int):∀x:List Int,V t (AD x)=W t x
 | []=>rfl
 | a::l=>by rw [I0,FF];rfl
def b9(x:ZX):ZX:=of (AD x.l)
theorem QE(x:ZX):V t (b9 x).l=W t x.l:=by rw [b9,abf,apb]
theorem LR(t h:Int):∀x:List Int,∃R:Int,V (t+h) x=V t x+h*W t x+h*h*R
 | []=>⟨0,by simp [V,W]⟩
 | a::l=>by
  obtain⟨R,hR⟩:=LR t h l
  refine⟨W t l+(t+h)*R,?_⟩
  simp only [V,W]
  rw [hR];grind
theorem U4{t A:Int}{z:List Int}(hA:∀h,∃R:Int,V (t+h) z=V t z+h*A+h*h*R):W t z=A:=by
 have key:∀h:Int,h≠0→h∣W t z-A:=fun h hh=>by
  obtain⟨R,hR⟩:=hA h
  obtain⟨S,hS⟩:=LR t h z
  refine⟨R-S,Int.eq_of_mul_eq_mul_left hh ?_⟩
  grind
 have h1:=key (((W t z-A).natAbs:Int)+1) (by omega)
 have h2:=Int.natAbs_dvd_natAbs.2 h1
 rcases Nat.eq_zero_or_pos (W t z-A).natAbs with h3 | h3
 ·omega
 ·have:=Nat.le_of_dvd h3 h2
  omega
theorem uW(x y:ZX):b9 (x*y)=b9 x*y+x*b9 y:=ext fun t=>by
 rw [QE,nD,eK,eK,QE,QE]
 refine U4 fun h=>?_
 obtain⟨R,hR⟩:=LR t h x.l
 obtain⟨S,hS⟩:=LR t h y.l
 refine⟨V t x.l*S+R*V t y.l+W t x.l*W t y.l+h*(W t x.l*S+R*W t y.l)+h*h*R*S,?_⟩
 rw [eK,eK,hR,hS];grind
theorem alA(c:Int):b9 (K c)=0:=ext fun t=>by
 rw [QE,wR]
 refine U4 fun h=>⟨0,?_⟩
 rw [yL,yL];grind
theorem aeY(c:Int)(x:ZX):b9 (K c*x)=K c*b9 x:=by rw [uW,alA];grind
theorem YN:b9 (1:ZX)=0:=alA 1
theorem YO(p:ZX):∀m:Nat,b9 (p^(m+1))=K ((m+1:Nat):Int)*p^m*b9 p
 | 0=>by
  rw [pow_succ',uW,fV,YN]
  show _=(1:ZX)*1*b9 p
  grind
 | m+1=>by
  rw [pow_succ',uW,YO p m]
  have:K ((m+1+1:Nat):Int)=K ((m+1:Nat):Int)+1:=ext fun t=>by rw [nD,yL,yL,IX];omega
  rw [this,pow_succ'];grind
theorem nG(a:ZX):N (b9 a)≤N a-1:=Nat.le_trans (cG _) (by simp [AD,N])
theorem FG{a:ZX}(h:2≤N a):b9 a≠0:=by
 have h1:a.l.length=N a:=rfl
 have hl:=dK a.c (by omega)
 intro h0
 have h2:nth (b9 a).l (N a-2)=nth a.l (N a-1)*((N a-1:Nat):Int):=by
  show nth (aL (AD a.l)) _=_
  rw [jI,AD,dE (by simp;omega)]
  simp only [List.getElem_map,List.getElem_range]
  rw [show N a-2+1=N a-1 by omega]
 rw [h0]at h2
 have h3:nth (0:ZX).l (N a-2)=0:=iF (by show(0:ZX).l.length≤_;exact Nat.zero_le _)
 rw [h3]at h2
 have h4:nth a.l (N a-1)=lead a.l:=by rw [lead,h1]
 rw [h4]at h2
 exact Int.mul_ne_zero hl (by omega) h2.symm
theorem rG.U5{p:ZX}(hp:rG p):¬dv p (b9 p):=fun h=>by
 have h1:=h.mD (FG hp.deg)
 have h2:=nG p
 have:=hp.deg
 omega
theorem AE{p a:ZX}(hp:rG p)(ha:a≠0){m:Nat}(h:mu p a=m+1):b9 a≠0∧mu p (b9 a)=m:=by
 obtain⟨c,hc,b,hb,e,hn⟩:=FE hp ha
 rw [h]at e
 have e2:K c*b9 a=(b9 b*p+K ((m+1:Nat):Int)*(b*b9 p))*p^m:=by
  rw [←aeY,e,uW,YO,pow_succ'];grind
 have NJ:¬dv p (b9 b*p+K ((m+1:Nat):Int)*(b*b9 p)):=fun h1=>by
  have h2:dv p (K ((m+1:Nat):Int)*(b*b9 p)):=by
   have h3:=h1.add ((dv.refl p).mul_left (-b9 b))
   rwa [show b9 b*p+K ((m+1:Nat):Int)*(b*b9 p) + -b9 b*p=K ((m+1:Nat):Int)*(b*b9 p)by grind]at h3
  have h4:=dv.HD (by omega) h2
  rcases hp.alx h4 with h5 | h5
  ·exact hn h5
  ·exact hp.U5 h5
 have h6:b9 a≠0:=fun h0=>by
  rw [h0]at e2
  have h7:(b9 b*p+K ((m+1:Nat):Int)*(b*b9 p))*p^m=0:=by rw [←e2];grind
  rcases tV h7 with h8 | h8
  ·rw [h8]at NJ;exact NJ (dv.zero p)
  ·exact LQ hp.ne m h8
 exact⟨h6,AB hp h6 hc e2 NJ⟩
theorem sK.AE{g a p:ZX}(h:sK g a (b9 a))(ha:a≠0)(hp:rG p):ZX.mu p g=ZX.mu p a-1:=by
 rcases Nat.eq_zero_or_pos (ZX.mu p a)with h1 | h1
 ·have:=YL hp ha h.l
  omega
 ·obtain⟨m,hm⟩:∃m,ZX.mu p a=m+1:=⟨ZX.mu p a-1,by omega⟩
  obtain⟨h2,h3⟩:=ZX.AE hp ha hm
  rw [h.mu ha h2 hp,h3,hm];omega
theorem U6{p:ZX}(hp:rG p):mu p 1=0:=abh hp (by decide)
theorem sK.avg{g a b q r:ZX}{c k:Int}(hc:c≠0)(hk:k≠0)(e:K c*a=q*b+K k*r)(h:sK g b r):sK g a b:=by
 obtain⟨d,hd,u,v,e2⟩:=h.uv
 refine⟨dv.HD hc ?_,h.l,k*d,Int.mul_ne_zero hk hd,v*K c,K k*u-v*q,by rw [←qG];grind⟩
 rw [e]
 exact(h.l.mul_left q).add (h.r.mul_left _)
theorem sK.assoc{g g' a b:ZX}(h:sK g a b)(h':sK g' a b):dv g g'∧dv g' g:=⟨h'.least h.l h.r,h.least h'.l h'.r⟩
theorem sK.congr{g a b a' b':ZX}(h:sK g a b)(h1:dv a a')(h2:dv a' a)(h3:dv b b')(h4:dv b' b):sK g a' b':=by
 obtain⟨g',hg'⟩:=j3 _ a' b' (Nat.le_refl _)
 obtain⟨c,hc,u,v,e⟩:=hg'.uv
 have h5:dv g g':=hg'.least (h.l.trans h1) (h.r.trans h3)
 have h6:dv g' g:=h.least (hg'.l.trans h2) (hg'.r.trans h4)
 obtain⟨d,hd,w,e2⟩:=h6
 refine⟨h.l.trans h1,h.r.trans h3,c*d,Int.mul_ne_zero hc hd,w*u,w*v,by rw [←qG];grind⟩
end ZX
theorem QF{H t:Nat}:∀ {x:List Int},(∀c∈x,c.natAbs≤H)→(V (t:Int) x).natAbs≤H*(1+t)^x.length
 | [],_=>by simp [V]
 | a::l,h=>by
  have h1:=QF (t:=t) (x:=l) fun c hc=>h c (by simp [hc])
  have h2:=h a (by simp)
  simp only [V]
  have h3:(a+(t:Int)*V t l).natAbs≤a.natAbs+t*(V (t:Int) l).natAbs:=by
   have:=Int.natAbs_add_le a ((t:Int)*V t l)
   rwa [Int.natAbs_mul,Int.natAbs_natCast]at this
  have h4:t*(V (t:Int) l).natAbs≤t*(H*(1+t)^l.length):=Nat.mul_le_mul_left _ h1
  have h5:H*1≤H*(1+t)^l.length:=Nat.mul_le_mul_left _ (Nat.one_le_pow _ _ (by omega))
  rw [List.length_cons,Nat.pow_succ]
  have h6:H*((1+t)^l.length*(1+t))=H*(1+t)^l.length+t*(H*(1+t)^l.length):=by grind
  omega
def sdv(s:Int):List Int→List Int
 | []=>[]
 | _::l=>V s l::sdv s l
theorem alB(s t:Int):∀x:List Int,V t x=V s x+(t-s)*V t (sdv s x)
 | []=>by simp [V,sdv]
 | a::l=>by
  have:=alB s t l
  simp only [V,sdv]
  have h2:t*V t l=t*(V s l+(t-s)*V t (sdv s l)):=by rw [←this]
  grind
theorem QG(s:Int):∀x:List Int,x ≠ [] → ∃y,sdv s x=y ++ [0]∧y.length=x.length-1
 | [],h=>absurd rfl h
 | [a],_=>⟨[],by simp [sdv,V],rfl⟩
 | a::b::l,_=>by
  obtain⟨y,h1,h2⟩:=QG s (b::l) (by simp)
  refine⟨V s (b::l)::y,by rw [sdv,h1];rfl,by simp at h2 ⊢;omega⟩
theorem FH{s:Nat}{M:Nat}:∀ {x:List Int},(V (s:Int) x).natAbs≤M→(∀c∈sdv s x,c.natAbs≤M) → ∀c∈x,c.natAbs≤M*(1+s)
 | [],_,_,c,hc=>by cases hc
 | a::l,h0,h,c,hc=>by
  have h1:(V (s:Int) l).natAbs≤M:=h _ (by simp [sdv])
  have h2:∀c∈sdv s l,c.natAbs≤M:=fun c hc=>h c (by simp [sdv,hc])
  rcases List.mem_cons.1 hc with rfl | hc
  ·simp only [V]at h0
   have h3:c.natAbs≤(c+(s:Int)*V s l).natAbs+s*(V (s:Int) l).natAbs:=by
    have h4:c=(c+(s:Int)*V s l)+(-((s:Int)*V s l)):=by omega
    have h5:=Int.natAbs_add_le (c+(s:Int)*V s l) (-((s:Int)*V s l))
    rw [←h4,Int.natAbs_neg,Int.natAbs_mul,Int.natAbs_natCast]at h5
    exact h5
   have h4:s*(V (s:Int) l).natAbs≤s*M:=Nat.mul_le_mul_left _ h1
   rw [Nat.mul_add,Nat.mul_one,Nat.mul_comm M s];omega
  ·exact FH h1 h2 c hc
theorem LS(K:Nat):∀(P:List Nat) (A:Nat) (x:List Int),P.Nodup→(∀p∈P,p≤K)→x.length≤P.length→(∀p∈P,(V (p:Int) x).natAbs≤A) → ∀c∈x,c.natAbs≤A*(2*(K+1))^P.length
 | [],A,x,_,_,hl,_,c,hc=>by
  have:x = []:=List.eq_nil_of_length_eq_zero (by simpa using hl)
  rw [this]at hc;cases hc
 | s::P,A,x,hd,hK,hl,hv,c,hc=>by
  have hx:x ≠ []:=fun h=>by rw [h]at hc;cases hc
  have h0:=hv s (List.mem_cons_self ..)
  obtain⟨hs,hd⟩:=List.nodup_cons.1 hd
  obtain⟨y,h1,h2⟩:=QG s x hx
  have hy:∀t:Int,V t (sdv s x)=V t y:=fun t=>by rw [h1,eH];simp [V]
  have h3:∀p∈P,(V (p:Int) y).natAbs≤2*A:=fun p hp=>by
   have h4:=alB s (p:Int) x
   rw [hy]at h4
   have h5:=hv p (List.mem_cons_of_mem _ hp)
   have kQ:p≠s:=fun h=>hs (h▸hp)
   have h6:(((p:Int)-s)*V (p:Int) y).natAbs≤2*A:=by
    have:((p:Int)-s)*V (p:Int) y=V (p:Int) x-V (s:Int) x:=by omega
    rw [this]
    omega
   rw [Int.natAbs_mul]at h6
   exact Nat.le_trans (Nat.le_mul_of_pos_left _ (by omega)) h6
  rw [List.length_cons]at hl ⊢
  have h4:=LS K P (2*A) y hd (fun p hp=>hK p (List.mem_cons_of_mem _ hp)) (by omega) h3
  have hP:1≤(2*(K+1))^P.length:=Nat.one_le_pow _ _ (by omega)
  have h5:=FH (s:=s) (M:=2*A*(2*(K+1))^P.length) (x:=x) (by
   have:A*1≤2*A*(2*(K+1))^P.length:=Nat.mul_le_mul (by omega) hP
   omega) (fun d hd=>by
   rw [h1]at hd
   rcases List.mem_append.1 hd with hd | hd
   ·exact h4 d hd
   ·simp at hd;subst hd;simp) c hc
  refine Nat.le_trans h5 ?_
  rw [Nat.pow_succ]
  have h6:A*((2*(K+1))^P.length*(2*(K+1)))=(2*A*(2*(K+1))^P.length)*(K+1):=by grind
  rw [h6]
  exact Nat.mul_le_mul_left _ (by have:=hK s (List.mem_cons_self ..);omega)
theorem FI{α:Type}(p:α→Bool):∀l:List α,(l.filter p).length+(l.filter fun x => !p x).length=l.length
 | []=>rfl
 | a::l=>by
  have:=FI p l
  cases h:p a<;>simp [h]<;>omega
theorem ai6{x:List Int}(hx:aL x ≠ []){n:Nat}(hl:x.length≤n):∃P:List Nat,P.Nodup∧(∀p∈P,p≤2*n-1)∧P.length=n ∧ ∀p∈P,V (p:Int) x≠0:=by
 have h1:=FI (fun p:Nat=>decide (V (p:Int) x=0)) (List.range (2*n))
 have h2:((List.range (2*n)).filter fun p:Nat=>decide (V (p:Int) x=0)).length<n:=Nat.not_le.1 fun h=>hx (by
  have h3:=LS (2*n) ((List.range (2*n)).filter fun p:Nat=>decide (V (p:Int) x=0)) 0 x (List.nodup_range.filter _) (fun p hp=>by have:=List.mem_range.1 (List.mem_filter.1 hp).1;omega) (by omega) (fun p hp=>by have:=of_decide_eq_true (List.mem_filter.1 hp).2;rw [this];decide)
  have h4:∀l:List Int,(∀c∈l,c.natAbs≤0*(2*(2*n+1))^((List.range (2*n)).filter fun p:Nat=>decide (V (p:Int) x=0)).length)→aL l = []:=fun l=>by
   induction l with
   | nil=>intro _;rfl
   | cons a l ih =>
    intro h
    have h5:=h a (List.mem_cons_self ..)
    rw [Nat.zero_mul]at h5
    rw [aL,ih fun c hc=>h c (List.mem_cons_of_mem _ hc),if_pos ⟨rfl,by omega⟩]
  exact h4 x h3)
 rw [List.length_range]at h1
 have h3:n≤((List.range (2*n)).filter fun p:Nat => !decide (V (p:Int) x=0)).length:=by omega
 refine⟨((List.range (2*n)).filter fun p:Nat => !decide (V (p:Int) x=0)).take n,(List.take_sublist _ _).nodup (List.nodup_range.filter _),fun p hp=>?_,by rw [List.length_take];omega,fun p hp=>?_⟩
 ·have:=List.mem_range.1 (List.mem_filter.1 (List.mem_of_mem_take hp)).1;omega
 ·have:=(List.mem_filter.1 (List.mem_of_mem_take hp)).2
  simpa using this
namespace ZX
theorem aeZ{a w g:ZX}{h n l:Nat}(ha:a≠0)(e:a=w*g)(hH:∀d∈a.l,d.natAbs≤2^h)(hN:N a≤n)(hn:n≤2^l):∀c∈g.l,c.natAbs≤2^(h+n*(2*l+3)):=by
 intro c hc
 have hw:w≠0∧g≠0:=⟨fun h0=>ha (by rw [e,h0];grind),fun h0=>ha (by rw [e,h0];grind)⟩
 have hlen:g.l.length≤n:=by
  have h1:N a=N w+N g-1:=by rw [e,oH hw.1 hw.2]
  have h2:=aI.1 hw.1
  show N g≤n
  omega
 have Z8:1≤n:=by have:=aI.1 ha;omega
 obtain⟨P,p1,p2,p3,p4⟩:=ai6 (x:=a.l) (n:=n) (by
  rw [show aL a.l=a.l from a.c]
  have:=aI.1 ha
  intro h0
  have h3:N a=a.l.length:=rfl
  rw [h3,h0]at this;simp at this) hN
 have hv:∀p∈P,(V (p:Int) g.l).natAbs≤2^h*(2^(l+1))^n:=fun p hp=>by
  have h1:V (p:Int) a.l=V (p:Int) w.l*V (p:Int) g.l:=by
   conv=>lhs;rw [e]
   rw [eK]
  have h2:=p4 p hp
  have h3:(V (p:Int) g.l).natAbs≤(V (p:Int) a.l).natAbs:=by
   rw [h1,Int.natAbs_mul]
   have:V (p:Int) w.l≠0:=fun h0=>h2 (by rw [h1,h0,Int.zero_mul])
   exact Nat.le_mul_of_pos_left _ (by omega)
  refine Nat.le_trans h3 (Nat.le_trans (QF hH) (Nat.mul_le_mul_left _ ?_))
  have h4:1+p≤2^(l+1):=by have:=p2 p hp;rw [Nat.pow_succ];omega
  exact Nat.le_trans (Nat.pow_le_pow_left h4 _) (Nat.pow_le_pow_right (Nat.two_pow_pos _) hN)
 have h5:=LS (2*n-1) P _ g.l p1 p2 (by omega) hv c hc
 refine Nat.le_trans h5 ?_
 rw [p3]
 have h7:2*(2*n-1+1)≤2^(l+2):=by rw [Nat.pow_add];omega
 have h8:(2*(2*n-1+1))^n≤(2^(l+2))^n:=Nat.pow_le_pow_left h7 _
 refine Nat.le_trans (Nat.mul_le_mul_left _ h8) (Nat.le_of_eq ?_)
 rw [←Nat.pow_mul,←Nat.pow_mul,←Nat.pow_add,←Nat.pow_add]
 congr 1
 grind
theorem ae0{a w g:ZX}{h n:Nat}(ha:a≠0)(e:a=w*g)(hb:Bd 2 h n a.l)(hn:n+1≤2^h):Bd 2 (h+n*(2*h+5)+1) n g.l:=by
 have hw:w≠0∧g≠0:=⟨fun h0=>ha (by rw [e,h0];grind),fun h0=>ha (by rw [e,h0];grind)⟩
 refine⟨?_,fun c hc=>?_⟩
 ·have h1:N a=N w+N g-1:=by rw [e,oH hw.1 hw.2]
  have h2:=aI.1 hw.1
  have h3:N a≤n:=hb.len
  show N g≤n
  omega
 ·have h1:=aeZ (h:=h) (n:=n) (l:=h) ha e (fun d hd=>by
   have h1:=iK (b:=2) (by decide) d
   have h2:=xS (b:=2) (by decide) (hb.sz d hd)
   omega) hb.len (by omega) c hc
  refine cQ (by decide) (Nat.lt_of_le_of_lt h1 (Nat.pow_lt_pow_right (by decide) ?_))
  have:n*(2*h+3)≤n*(2*h+5):=Nat.mul_le_mul_left _ (by omega)
  omega
end ZX
end Pm
namespace Go.Proofs.YtelhfbikiccfkaaGreat
open Go Pm
open ZX hiding N W
structure Nf(a:ZX):Prop where
 ne:a≠0
 g:bV a.l=1
 l:0<lead a.l
theorem vB{a:ZX}(h:a≠0):a.l ≠ []:=fun e=>by
 have:=aI.1 h
 have h2:ZX.N a=a.l.length:=rfl
 rw [h2,e]at this;simp at this
theorem apc(x:List Int):Cn (tO x):=Cn.cut _
def nf(a:ZX):ZX:=⟨tO a.l,apc _⟩
theorem lE:nf 0=0:=ZX.ext fun t=>rfl
theorem QH{a:ZX}(ha:a≠0):K (mC a.l)*nf a=a:=ZX.ext fun t=>by
 rw [eK,yL]
 conv=>rhs;rw [←aa2 a.c (vB ha)]
 rw [cR,Int.mul_comm];rfl
theorem rH{a:ZX}(ha:a≠0):mC a.l≠0:=UT a.c (vB ha)
theorem alC{a:ZX}(ha:a≠0):nf a≠0:=fun h=>ha (by rw [←QH ha,h];grind)
theorem jK{a:ZX}(ha:a≠0):Nf (nf a):=⟨alC ha,aiR a.c (vB ha),aeH a.c (vB ha)⟩
theorem Nf.nfe{a:ZX}(h:Nf a):nf a=a:=by
 have h1:mC a.l=1:=by
  unfold mC
  rw [if_neg (by have:=h.l;omega),h.g];rfl
 have:=QH h.ne
 rw [h1]at this
 rw [←this]
 conv=>lhs;rw [this]
 show _=(1:ZX)*_
 grind
theorem ae1{c:Int}(hc:c≠0)(a:ZX):ZX.N (K c*a)=ZX.N a:=by
 by_cases ha:a=0
 ·rw [ha,show K c*(0:ZX)=0 by grind]
 ·rw [oH (sJ hc) ha,N_K hc];have:=aI.1 ha;omega
theorem yM(a:ZX):ZX.N (nf a)=ZX.N a:=by
 by_cases ha:a=0
 ·rw [ha,lE]
 ·have:=ae1 (rH ha) (nf a)
  rw [QH ha]at this
  exact this.symm
theorem K_l{c:Int}(hc:c≠0)(a:ZX):(K c*a).l=a.l.map (· * c):=by
 refine Cn.ext (K c*a).c (jZ a.c hc) fun t=>?_
 rw [eK,yL,dY,Int.mul_comm]
theorem ae2{c:Int}(hc:c≠0){a:ZX}(ha:a≠0):lead (K c*a).l=c*lead a.l:=by
 have h:(K c*a).l=bH (K c).l a.l:=rfl
 have hK:(K c).l = [c]:=by show aL [c] = [c];exact iZ hc []
 rw [h,zW (K c).c a.c (by rw [hK];simp) (aI.1 ha),hK]
 rfl
theorem Nf.LU{a b:ZX}(ha:Nf a)(hb:Nf b){c d:Int}(hc:c≠0)(hd:d≠0)(e:K c*a=K d*b):a=b:=by
 have h1:c.natAbs=d.natAbs:=by
  have h2:bV (K c*a).l=bV (K d*b).l:=by rw [e]
  rw [K_l hc,K_l hd,j0,j0,ha.g,hb.g]at h2
  omega
 have h3:c*lead a.l=d*lead b.l:=by rw [←ae2 hc ha.ne,←ae2 hd hb.ne,e]
 have h4:c=d:=by
  rcases Int.natAbs_eq_natAbs_iff.1 h1 with h5 | h5
  ·exact h5
  ·exfalso
   subst h5
   have hl:=ha.l
   have GJ:=hb.l
   rcases Int.lt_or_gt_of_ne hd with h6 | h6
   ·have:=Int.mul_pos (show 0 < -d by omega) hl
    have:=Int.mul_neg_of_neg_of_pos h6 GJ
    omega
   ·have:=Int.mul_neg_of_neg_of_pos (show -d<0 by omega) hl
    have:=Int.mul_pos h6 GJ
    omega
 subst h4
 exact ZX.cancel (sJ hc) e
theorem ai8{a b:ZX}{c d:Int}(ha:a≠0)(hc:c≠0)(hd:d≠0)(e:K c*a=K d*b):nf a=nf b:=by
 have hb:b≠0:=fun h=>by
  rw [h,show K d*(0:ZX)=0 by grind]at e
  exact tU (sJ hc) ha e
 refine Nf.LU (jK ha) (jK hb) (c:=c*mC a.l) (d:=d*mC b.l) (Int.mul_ne_zero hc (rH ha)) (Int.mul_ne_zero hd (rH hb)) ?_
 rw [←qG,←qG]
 have h1:=QH ha
 have h2:=QH hb
 grind
theorem QI(a:ZX):nf (nf a)=nf a:=by
 by_cases ha:a=0
 ·rw [ha,lE,lE]
 ·exact(jK ha).nfe
theorem I1(a:ZX):dv a (nf a)∧dv (nf a) a:=by
 by_cases ha:a=0
 ·rw [ha,lE];exact⟨dv.refl 0,dv.refl 0⟩
 ·have h:=QH ha
  exact⟨⟨mC a.l,rH ha,1,by rw [h];grind⟩,⟨1,by decide,K (mC a.l),by rw [h];show(1:ZX)*a=a;grind⟩⟩
theorem BT{a b:ZX}(h1:dv a b)(h2:dv b a):nf a=nf b:=by
 by_cases ha:a=0
 ·subst ha;rw [C4 h1]
 ·obtain⟨c,hc,q,e⟩:=h2
  have h3:=h1.mD (fun hb=>ha (by subst hb;exact C4 ⟨c,hc,q,e⟩))
  have h4:=dv.mD ⟨c,hc,q,e⟩ ha
  obtain⟨hq,hb⟩:=nQ hc ha e
  have h5:=ae1 hc a
  rw [e,oH hq hb]at h5
  have:=aI.1 hq
  have:=aI.1 hb
  obtain⟨d,hd,rfl⟩:=lC (x:=q) (by omega)
  exact ai8 ha hc hd e
theorem Nf.one:Nf 1:=⟨oI,by decide,by decide⟩
theorem Nf.mul{a b:ZX}(ha:Nf a)(hb:Nf b):Nf (a*b):=by
 refine⟨tU ha.ne hb.ne,?_,?_⟩
 ·show bV (bH a.l b.l)=1
  rw [aeG a.c b.c (vB ha.ne) (vB hb.ne),ha.g,hb.g]
 ·show 0<lead (bH a.l b.l)
  rw [zW a.c b.c (aI.1 ha.ne) (aI.1 hb.ne)]
  exact Int.mul_pos ha.l hb.l
theorem ae3{p a:ZX}(hp:rG p)(ha:a≠0):mu p (nf a)=mu p a:=by
 conv=>rhs;rw [←QH ha]
 rw [wS hp (sJ (rH ha)) (alC ha),abh hp (rH ha)];omega
theorem Nf.tW{a b:ZX}(ha:Nf a)(hb:Nf b)(h:∀p,rG p→mu p a=mu p b):a=b:=by
 rw [←ha.nfe,←hb.nfe]
 exact BT ((nX ha.ne hb.ne).2 fun p hp=>by have:=h p hp;omega) ((nX hb.ne ha.ne).2 fun p hp=>by have:=h p hp;omega)
theorem Nf.quo{a b:ZX}(ha:Nf a)(hb:Nf b)(h:dv b a):∃w,Nf w∧a=w*b:=by
 obtain⟨c,hc,q,e⟩:=h
 obtain⟨hq,_⟩:=nQ hc ha.ne e
 refine⟨nf q,jK hq,Nf.LU ha ((jK hq).mul hb) hc (rH hq) ?_⟩
 have:=QH hq
 grind
theorem Nf.exact{a b w:ZX}(hb:Nf b)(e:a=w*b):exact a.l b.l=some w.l:=by
 subst e
 exact U3 w.c b.c (aI.1 hb.ne)
theorem Nf.N1{a:ZX}(ha:Nf a)(h:ZX.N a≤1):a=1:=by
 obtain⟨c,hc,rfl⟩:=lC (x:=a) (by have:=aI.1 ha.ne;omega)
 exact Nf.LU ha Nf.one (show (1:Int)≠0 by decide) hc (by show(1:ZX)*_=K c*1;grind)
noncomputable def gz(a b:ZX):ZX:=nf (Classical.choose (j3 _ a b (Nat.le_refl _)))
theorem uX(a b:ZX):∃g,sK g a b∧gz a b=nf g:=⟨_,Classical.choose_spec (j3 _ a b (Nat.le_refl _)),rfl⟩
theorem QJ{g a b:ZX}(h:sK g a b):gz a b=nf g:=by
 obtain⟨g',h',e⟩:=uX a b
 rw [e]
 obtain⟨h1,h2⟩:=h'.assoc h
 exact BT h1 h2
theorem sK.avh{g g' a b:ZX}(h:sK g a b)(h1:dv g g')(h2:dv g' g):sK g' a b:=by
 obtain⟨c,hc,u,v,e⟩:=h.uv
 obtain⟨d,hd,w,e2⟩:=h1
 exact⟨h2.trans h.l,h2.trans h.r,c*d,Int.mul_ne_zero hc hd,w*u,w*v,by rw [←qG];grind⟩
theorem eJ(a b:ZX):sK (gz a b) a b:=by
 obtain⟨g,h,e⟩:=uX a b
 rw [e]
 obtain⟨h1,h2⟩:=I1 g
 exact sK.avh h h1 h2
theorem alD{a b:ZX}(h:a≠0∨b≠0):gz a b≠0:=(eJ a b).ne h
theorem BU{a b:ZX}(h:a≠0∨b≠0):Nf (gz a b):=by
 have h0:=alD h
 obtain⟨g,h,e⟩:=uX a b
 rw [e]at h0 ⊢
 exact jK (fun hg=>h0 (by rw [hg,lE]))
theorem rI(a b:ZX):gz a b=gz b a:=by
 have h:=eJ a b
 rw [QJ h.symm]
 obtain⟨g,_,e⟩:=uX a b
 rw [e,QI]
theorem uY(a:ZX):gz a 0=nf a:=QJ (sK.zero a)
theorem QK(a:ZX):gz 0 a=nf a:=by rw [rI,uY]
theorem FJ{a b a' b':ZX}(h1:dv a a')(h2:dv a' a)(h3:dv b b')(h4:dv b' b):gz a b=gz a' b':=by
 obtain⟨g,hg,e⟩:=uX a b
 rw [e,QJ (hg.congr h1 h2 h3 h4)]
theorem YP(a b:ZX):gz (nf a) b=gz a b:=FJ (I1 a).2 (I1 a).1 (dv.refl b) (dv.refl b)
theorem U7(a b:ZX):gz a (nf b)=gz a b:=FJ (dv.refl a) (dv.refl a) (I1 b).2 (I1 b).1
theorem LV{a b q r:ZX}{c k:Int}(hc:c≠0)(hk:k≠0)(e:K c*a=q*b+K k*r):gz a b=gz b r:=by
 obtain⟨g,hg,e2⟩:=uX b r
 rw [e2,QJ (hg.avg hc hk e)]
end Go.Proofs.YtelhfbikiccfkaaGreat
namespace Go.Proofs.YtelhfbikiccfkaaGreat
open Go Pm
open ZX hiding N W
open Classical in
noncomputable def qz(a b:ZX):ZX:=if h:∃w,Nf w∧a=w*b then h.choose else 0
theorem o8{a b:ZX}(ha:Nf a)(hb:Nf b)(h:dv b a):Nf (qz a b)∧a=qz a b*b:=by
 have h:=ha.quo hb h
 unfold qz
 rw [dif_pos h]
 exact h.choose_spec
theorem alE{a b w:ZX}(hb:Nf b)(hw:Nf w)(e:a=w*b):qz a b=w:=by
 have ha:Nf a:=by rw [e];exact hw.mul hb
 obtain⟨h1,h2⟩:=o8 ha hb ⟨1,by decide,w,by rw [e];show(1:ZX)*_=_;grind⟩
 refine ZX.cancel hb.ne ?_
 have:qz a b*b=w*b:=by rw [←h2,e]
 grind
theorem ae4{a b:ZX}(ha:Nf a)(hb:Nf b)(h:dv b a):exact a.l b.l=some (qz a b).l:=Nf.exact hb (o8 ha hb h).2
theorem alF{a b p:ZX}(ha:Nf a)(hb:Nf b)(h:dv b a)(hp:rG p):mu p (qz a b)=mu p a-mu p b:=by
 obtain⟨h1,h2⟩:=o8 ha hb h
 have h3:mu p a=mu p (qz a b)+mu p b:=by
  conv=>lhs;rw [h2]
  exact wS hp h1.ne hb.ne
 omega
theorem Nf.self{a:ZX}(ha:Nf a):qz a a=1:=alE ha Nf.one (by grind)
theorem Nf.aAB{a:ZX}(ha:Nf a):qz a 1=a:=alE Nf.one ha (by grind)
noncomputable def gd(a:ZX):ZX:=gz a (b9 a)
theorem YQ{a:ZX}(ha:a≠0):Nf (gd a):=BU (.inl ha)
theorem BV(a:ZX):dv (gd a) a:=(eJ a (b9 a)).l
theorem alG{a p:ZX}(ha:a≠0)(hp:rG p):mu p (gd a)=mu p a-1:=(eJ a (b9 a)).AE ha hp
theorem aAC{a:ZX}(h:2≤ZX.N a):ZX.N (gd a)<ZX.N a:=by
 have h1:=(eJ a (b9 a)).r.mD (FG h)
 have h2:=nG a
 have:ZX.N (gd a)=ZX.N (gz a (b9 a)):=rfl
 omega
theorem ae5:gd 1=1:=by
 unfold gd
 rw [YN,uY,Nf.one.nfe]
noncomputable def gs(a:ZX):Nat→ZX
 | 0=>a
 | k+1=>gd (gs a k)
theorem oK{a:ZX}(ha:Nf a):∀k,Nf (gs a k)
 | 0=>ha
 | k+1=>YQ (oK ha k).ne
theorem I2(a:ZX):∀k,dv (gs a k) a
 | 0=>dv.refl a
 | k+1=>(BV _).trans (I2 a k)
theorem YR{a p:ZX}(ha:Nf a)(hp:rG p):∀k,mu p (gs a k)=mu p a-k
 | 0=>rfl
 | k+1=>by
  show mu p (gd (gs a k))=_
  rw [alG (oK ha k).ne hp,YR ha hp k];omega
theorem ai9{a:ZX}:∀k,ZX.N (gs a k)≤1∨ZX.N (gs a k)+k≤ZX.N a
 | 0 => .inr (Nat.le_refl _)
 | k+1=>by
  rcases ai9 (a:=a) k with h | h
  ·left
   show ZX.N (gz (gs a k) (b9 (gs a k)))≤1
   by_cases h0:gs a k=0
   ·rw [h0,show b9 (0:ZX)=0 from ZX.ext fun t=>rfl,uY,lE];decide
   ·exact Nat.le_trans ((eJ _ _).l.mD h0) h
  ·rcases Nat.lt_or_ge (ZX.N (gs a k)) 2 with h2 | h2
   ·left
    show ZX.N (gz (gs a k) (b9 (gs a k)))≤1
    by_cases h0:gs a k=0
    ·rw [h0,show b9 (0:ZX)=0 from ZX.ext fun t=>rfl,uY,lE];decide
    ·exact Nat.le_trans ((eJ _ _).l.mD h0) (by omega)
   ·right
    have:=aAC h2
    show ZX.N (gd (gs a k))+(k+1)≤_
    omega
open Classical in
noncomputable def nl(a:ZX):Nat:=if h:∃m,ZX.N (gs a m)≤1 ∧ ∀k,k<m→2≤ZX.N (gs a k)then h.choose else 0
theorem lF(a:ZX):ZX.N (gs a (nl a))≤1 ∧ ∀k,k<nl a→2≤ZX.N (gs a k):=by
 have h:∃m,ZX.N (gs a m)≤1 ∧ ∀k,k<m→2≤ZX.N (gs a k):=by
  have key:∀n,(∃m,m≤n∧ZX.N (gs a m)≤1 ∧ ∀k,k<m→2≤ZX.N (gs a k)) ∨ ∀k,k≤n→2≤ZX.N (gs a k):=by
   intro n
   induction n with
   | zero =>
    rcases Nat.lt_or_ge (ZX.N (gs a 0)) 2 with h | h
    ·exact .inl ⟨0,Nat.le_refl _,by omega,fun k hk=>by omega⟩
    ·exact .inr fun k hk=>by rw [show k=0 by omega];exact h
   | succ n ih =>
    rcases ih with ⟨m,h1,h2⟩ | ih
    ·exact .inl ⟨m,by omega,h2⟩
    ·rcases Nat.lt_or_ge (ZX.N (gs a (n+1))) 2 with h | h
     ·exact .inl ⟨n+1,Nat.le_refl _,by omega,fun k hk=>ih k (by omega)⟩
     ·refine .inr fun k hk=>?_
      rcases Nat.lt_or_ge k (n+1)with h3 | h3
      ·exact ih k (by omega)
      ·rw [show k=n+1 by omega];exact h
  rcases key (ZX.N a)with ⟨m,_,h⟩ | h
  ·exact⟨m,h⟩
  ·have h1:=h (ZX.N a) (Nat.le_refl _)
   rcases ai9 (a:=a) (ZX.N a)with h2 | h2<;>omega
 unfold nl
 rw [dif_pos h]
 exact h.choose_spec
theorem I3(a:ZX):nl a≤ZX.N a:=by
 rcases Nat.eq_zero_or_pos (nl a)with h | h
 ·omega
 ·have h1:=(lF a).2 (nl a-1) (by omega)
  rcases ai9 (a:=a) (nl a-1)with h2 | h2<;>omega
theorem avi{a:ZX}{k:Nat}(h:∀j,j≤k→2≤ZX.N (gs a j)):k<nl a:=by
 rcases Nat.lt_or_ge k (nl a)with h1 | h1
 ·exact h1
 ·have:=h _ h1
  have:=(lF a).1
  omega
theorem QL{a:ZX}(ha:Nf a):∀j,gs a (nl a+j)=1
 | 0=>(oK ha _).N1 (lF a).1
 | j+1=>by
  show gd (gs a (nl a+j))=1
  rw [QL ha j,ae5]
noncomputable def wz(a:ZX)(k:Nat):ZX:=qz (gs a k) (gs a (k+1))
theorem gQ{a:ZX}(ha:Nf a)(k:Nat):Nf (wz a k)∧gs a k=wz a k*gs a (k+1):=o8 (oK ha k) (oK ha (k+1)) (BV _)
theorem QM{a p:ZX}(ha:Nf a)(hp:rG p)(k:Nat):mu p (wz a k)=if k<mu p a then 1 else 0:=by
 rw [wz,alF (oK ha k) (oK ha (k+1)) (BV _) hp,YR ha hp,YR ha hp]
 split<;>omega
theorem avj{a:ZX}(ha:Nf a)(j:Nat):wz a (nl a+j)=1:=by
 rw [wz,QL ha j,Nat.add_assoc,QL ha (j+1),Nf.one.self]
theorem QN{a:ZX}(ha:Nf a)(k:Nat):dv (wz a (k+1)) (wz a k):=(nX (gQ ha _).1.ne (gQ ha _).1.ne).2 fun p hp=>by
 rw [QM ha hp,QM ha hp]
 split<;>split<;>omega
noncomputable def mT(a:ZX)(k:Nat):ZX:=qz (wz a k) (wz a (k+1))
theorem yN{a:ZX}(ha:Nf a)(k:Nat):Nf (mT a k)∧wz a k=mT a k*wz a (k+1):=o8 (gQ ha k).1 (gQ ha (k+1)).1 (QN ha k)
theorem avk{a p:ZX}(ha:Nf a)(hp:rG p)(k:Nat):mu p (mT a k)=if mu p a=k+1 then 1 else 0:=by
 rw [mT,alF (gQ ha k).1 (gQ ha (k+1)).1 (QN ha k) hp,QM ha hp,QM ha hp]
 split<;>split<;>split<;>omega
theorem aja{a:ZX}(ha:Nf a){k:Nat}(h:k+1=nl a):mT a k=wz a k:=by
 rw [mT,h,show nl a=nl a+0 from rfl,avj ha 0,(gQ ha k).1.aAB]
noncomputable def fl(a:ZX):List ZX:=(List.range (nl a)).map (mT a)
theorem apd(a:ZX):(fl a).length=nl a:=by simp [fl]
theorem QO{a p:ZX}(ha:Nf a)(hp:rG p):mu p a≤nl a:=by
 have h:=YR ha hp (nl a)
 have h1:=QL ha 0
 rw [Nat.add_zero]at h1
 rw [h1,U6 hp]at h
 omega
noncomputable def pf(a:ZX)(c:Nat→Bool):Nat→ZX
 | 0=>1
 | k+1=>if c k then pf a c k*mT a k else pf a c k
theorem yO{a:ZX}(ha:Nf a)(c:Nat→Bool):∀k,Nf (pf a c k)
 | 0=>Nf.one
 | k+1=>by
  rw [pf]
  split
  ·exact(yO ha c k).mul (yN ha k).1
  ·exact yO ha c k
theorem YS{a p:ZX}(ha:Nf a)(hp:rG p)(c:Nat→Bool):∀k,mu p (pf a c k)=if 1≤mu p a∧mu p a≤k∧c (mu p a-1)=true then 1 else 0
 | 0=>by
  rw [pf,U6 hp,if_neg (by omega)]
 | k+1=>by
  have ih:=YS ha hp c k
  have hf:=avk ha hp k
  rw [pf]
  by_cases hc:c k=true
  ·rw [if_pos hc,wS hp (yO ha c k).ne (yN ha k).1.ne,ih,hf]
   by_cases h1:mu p a=k+1
   ·rw [if_pos h1,h1,Nat.add_sub_cancel,if_neg (by omega),if_pos ⟨by omega,Nat.le_refl _,hc⟩]
   ·rw [if_neg h1]
    by_cases h2:1≤mu p a∧mu p a≤k∧c (mu p a-1)=true
    ·rw [if_pos h2,if_pos ⟨h2.1,by omega,h2.2.2⟩]
    ·rw [if_neg h2,if_neg (fun h3=>h2 ⟨h3.1,by omega,h3.2.2⟩)]
  ·rw [if_neg hc,ih]
   by_cases h1:mu p a=k+1
   ·rw [h1,Nat.add_sub_cancel,if_neg (by omega),if_neg (fun h3=>hc h3.2.2)]
   ·by_cases h2:1≤mu p a∧mu p a≤k∧c (mu p a-1)=true
    ·rw [if_pos h2,if_pos ⟨h2.1,by omega,h2.2.2⟩]
    ·rw [if_neg h2,if_neg (fun h3=>h2 ⟨h3.1,by omega,h3.2.2⟩)]
noncomputable def oz(a:ZX):ZX:=pf a (fun k=>k%2==0) (nl a)
noncomputable def sz'(a:ZX):ZX:=wz a 0
theorem alI{a:ZX}(ha:Nf a):Nf (oz a):=yO ha _ _
theorem ae6{a:ZX}(ha:Nf a):Nf (sz' a):=(gQ ha 0).1
theorem avl{a p:ZX}(ha:Nf a)(hp:rG p):mu p (oz a)=mu p a%2:=by
 have h:=QO ha hp
 rw [oz,YS ha hp]
 by_cases h1:1≤mu p a∧mu p a≤nl a∧((mu p a-1)%2==0)=true
 ·rw [if_pos h1]
  have:=h1.2.2
  simp only [beq_iff_eq]at this
  omega
 ·rw [if_neg h1]
  simp only [beq_iff_eq]at h1
  omega
theorem ae7{a p:ZX}(ha:Nf a)(hp:rG p):mu p (sz' a)=min (mu p a) 1:=by
 rw [sz',QM ha hp]
 split<;>omega
theorem ape{a:ZX}(ha:Nf a):pf a (fun _=>true) (nl a)=sz' a:=Nf.tW (yO ha _ _) (ae6 ha) fun p hp=>by
 have h:=QO ha hp
 rw [YS ha hp,ae7 ha hp]
 by_cases h1:1≤mu p a
 ·rw [if_pos ⟨h1,h,rfl⟩];omega
 ·rw [if_neg (fun h2=>h1 h2.1)];omega
theorem QP{a:ZX}(h:ZX.N a≤1):nl a=0:=by
 rcases Nat.eq_zero_or_pos (nl a)with h1 | h1
 ·exact h1
 ·have:=(lF a).2 0 h1
  have:ZX.N (gs a 0)=ZX.N a:=rfl
  omega
def qb(h n:Nat):Nat:=h+n*(2*h+5)+1
theorem avm{a b:ZX}(ha:Nf a)(hb:Nf b)(hd:dv b a){h n:Nat}(hx:Bd 2 h n a.l)(hn:n+1≤2^h):Bd 2 (qb h n) n b.l:=by
 obtain⟨w,_,e⟩:=ha.quo hb hd
 exact ae0 ha.ne e hx hn
theorem ae8{a b:ZX}(ha:Nf a)(hb:Nf b)(h:dv b a):dv (qz a b) a:=by
 obtain⟨_,h2⟩:=o8 ha hb h
 exact⟨1,by decide,b,by rw [ZX.IZ b,←h2];show(1:ZX)*_=_;grind⟩
theorem C5{a:ZX}(ha:Nf a)(k:Nat):dv (wz a k) a:=(ae8 (oK ha k) (oK ha (k+1)) (BV _)).trans (I2 a k)
theorem LW{a:ZX}(ha:Nf a)(k:Nat):dv (mT a k) a:=(ae8 (gQ ha k).1 (gQ ha (k+1)).1 (QN ha k)).trans (C5 ha k)
theorem C6{a:ZX}(ha:Nf a)(c:Nat→Bool)(k:Nat):dv (pf a c k) a:=(nX (yO ha c k).ne ha.ne).2 fun p hp=>by
 rw [YS ha hp]
 split<;>omega
end Go.Proofs.YtelhfbikiccfkaaGreat
namespace Go.Proofs.YtelhfbikiccfkaaGreat
open Go Pm
theorem FK(v:Int):sz LL v≤sz 2 v:=cQ eB (Nat.lt_of_lt_of_le (iK (b:=2) (by decide) v) (Nat.pow_le_pow_left (by decide) _))
theorem QQ{h n:Nat}{x:List Int}(hx:Bd 2 h n x):Bd LL h n x:=⟨hx.len,fun c hc=>Nat.le_trans (FK c) (hx.sz c hc)⟩
instance:Inhabited ZX:=⟨0⟩
abbrev BZ(h n:Nat)(a:ZX):Prop:=Bd 2 h n a.l
theorem BZ.pb{h n:Nat}{a:ZX}(b:BZ h n a)(hh:h<1099511627775)(hn:n<1099511627775):PB a.l:=PB.of (QQ b) hh hn
theorem BZ.tL{h n:Nat}{a:ZX}(b:BZ h n a)(hh:h<1099511627775)(hn:n<1099511627775):oQ (a.l.map jD):=(b.pb hh hn).tL
theorem BW(a:ZX):eX (a.l.map jD)=a.l:=by rw [aiP];exact a.c
theorem BZ.mono{h h' n n':Nat}{a:ZX}(b:BZ h n a)(hh:h≤h')(hn:n≤n'):BZ h' n' a:=Bd.mono b hh hn
theorem BZ.nf{h n:Nat}{a:ZX}(b:BZ h n a):BZ h n (nf a):=aeP b
theorem BZ.N{h n:Nat}{a:ZX}(b:BZ h n a):ZX.N a≤n:=Bd.len b
theorem ae9{h n:Nat}{a:ZX}(b:BZ h n a)(hh:h<1099511627774)(hn:n<1099511627774)(k:Nat)(hk:k+1<a.l.length):aD env.P 174 [.int .i64 (k:Int), .rd [Po a.l]] (I (nth a.l (k+1)*((k+1:Nat):Int))):=by
 have hlen:=b.len
 have hz:=(QQ b).nth (k+1)
 have o1:=wH ((k+1:Nat):Int) (by omega) (by omega)
 have XN:Sz ((k+1:Nat):Int):=Nat.lt_of_le_of_lt (cQ (k:=2) eB (by rw [Int.natAbs_natCast];show k+1<4294967296^2;omega)) (by decide)
 have m1:=vP (x:=nth a.l (k+1)) (y:=((k+1:Nat):Int)) (by show Pm.sz LL _<_;omega) XN
 have e:((k:Int)+1).toNat=k+1:=by omega
 rw [Int.natCast_add,Int.natCast_one]at o1 m1
 refine b6 [(0, .int .i64 (k:Int)),(1, .rd [Po a.l])] Tryz.func174 ?_
 generalize a.l=x at *
 refine aA [0,1,3] ?_
 refine W.sd ?_
 simp (disch:=omega) [gw,e]
 refine bW o1 ?_
 refine bU [3] m1 ?_
 exact b7
theorem rJ{h n:Nat}{a:ZX}(b:BZ h n a)(hh:h<1099511627774)(hn:n<1099511627774):aD env.P 89 [Po a.l] (Po (ZX.b9 a).l):=by
 have hlen:=b.len
 have hc:=fun k hk=>ae9 b hh hn k hk
 have hE:=tF 174 rfl [.rd [Po a.l]] rfl (a.l.length-1) (by omega) (fun k=>nth a.l (k+1)*((k+1:Nat):Int)) (fun k hk=>hc k (by omega))
 have e0:aL ((List.range (a.l.length-1)).map fun k=>nth a.l (k+1)*((k+1:Nat):Int))=(ZX.b9 a).l:=rfl
 rw [e0]at hE
 generalize (ZX.b9 a).l=d at *
 generalize a.l=x at *
 have e1:(if (1:Int)<(x.length:Int)then(x.length:Int)-1 else 0)=((x.length-1:Nat):Int):=by split<;>omega
 refine b6 [(0,Po x)] Tryz.func89 ?_
 refine aA [1] ?_
 refine W.sr ?_
 simp (disch:=omega) [gw,e1]
 refine bU [2] hE ?_
 exact b7
theorem U8{α:Type}{g:α→List PV}{l:List α}{c:Int}{d:List Int}(h1:aD env.P 153 [aG g l] (.fE [I c,Po d])):aD env.P 155 [aG g l] (Po d):=by
 refine b6 [(0,aG g l)] Tryz.func155 ?_
 refine aA [0] ?_
 refine aJ [4] h1 ?_
 refine aA [2] ?_
 exact b7
theorem nY{h n:Nat}{a:ZX}(b:BZ h n a)(hh:h<1099511627774)(hn:n<1099511627774):aD env.P 155 [Po a.l] (Po (nf a).l):=by
 have h1:=vQ (a.l.map jD) (b.tL (by omega) (by omega)) (s:=h) (n:=n) (by rw [bP];exact QQ b) hh hn
 rw [BW,←fI]at h1
 exact U8 h1
theorem YT{h h' n:Nat}{a c:ZX}(b:BZ h n a)(b':BZ h' n c)(ha:Nf a)(hc:Nf c)(hd:ZX.dv c a)(hB:h+n*(h'+n+1)+h'+n+n+10<1099511627774):aD env.P 156 [Po a.l,Po c.l] (Po (qz a c).l):=by
 have h0:¬c.l = []:=vB hc.ne
 have h1:=aa1 (a.l.map jD) (c.l.map jD) (b.tL (by omega) (by omega)) (b'.tL (by omega) (by omega)) (s:=h) (s':=h') (N:=n) (by rw [bP];exact QQ b) (by rw [bP];exact QQ b') hB
 rw [BW,BW,if_neg h0,ae4 ha hc hd,←fI,←fI,exR]at h1
 generalize (qz a c).l=d at *
 generalize a.l=x at *
 generalize c.l=y at *
 refine b6 [(0,Po x),(1,Po y)] Tryz.func156 ?_
 refine aA [0,1] ?_
 refine aJ [5] h1 ?_
 refine aA [4] ?_
 exact b7
def rs(a c:ZX):ZX:=⟨PM a.l c.l,aoV _ _⟩
theorem FL{x:List Int}(cx:Cn x)(hx:x ≠ []):(kK x).map (· * (bV x:Int))=x:=by
 have hg:=c7 cx hx
 have h1:=C0 (g:=(bV x:Int)) (fun c hc=>fD x c hc)
 have h2:Cn (x.map (k9 (bV x))):=by
  have h3:x.map (k9 (bV x))=aL (x.map (k9 (bV x))):=by
   refine(List.map_inj_right (f:=fun v:Int=>v*(bV x:Int)) (fun u v e=>Int.eq_of_mul_eq_mul_right (by omega) e)).1 ?_
   rw [h1]
   refine Cn.ext cx (jZ (Cn.cut _) (by omega)) fun t=>?_
   rw [dY,dF,←dY,h1]
  exact h3.symm
 rw [kK,show aL (x.map (k9 (bV x)))=_ from h2,h1]
theorem ajb{a c:ZX}(hc:c≠0):∃(m k:Int) (q:ZX),m≠0∧k≠0∧ZX.K m*a=q*c+ZX.K k*rs a c:=by
 have h0:=ZX.aI.1 hc
 obtain⟨c1,c2⟩:=EL (b:=c.l) a.c
 have hm:lead c.l^jW a.l c.l≠0:=Int.pow_ne_zero (dK c.c h0)
 have QR:=aeC (lead c.l) (jW a.l c.l)
 have hr:=aeD (b:=c.l) a.c
 have hV:=fun t=>adW t a.l c.l
 have hg:sg (lead c.l) (jW a.l c.l)≠0:=fun h=>by rw [h]at QR;simp at QR
 generalize sg (lead c.l) (jW a.l c.l)=g at *
 generalize lead c.l^jW a.l c.l=m at *
 have hl:(rs a c).l=kK (aN (BG a.l c.l).2 g):=hr
 generalize rs a c=R at *
 generalize (BG a.l c.l).1=q at *
 generalize (BG a.l c.l).2=r at *
 have hcp:Cn (aN r g):=Cn.aN _ _
 by_cases hz:aN r g = []
 ·refine⟨m,1,⟨q,c1⟩,hm,by decide,ZX.ext fun t=>?_⟩
  rw [hz]at hl
  have h1:V t R.l=0:=by rw [hl];rfl
  have h2:V t r=0:=by
   have h3:V t (aN r g)=0:=by rw [hz];rfl
   rw [cR]at h3
   rcases Int.mul_eq_zero.1 h3 with h4 | h4
   ·exact h4
   ·exact absurd h4 hg
  rw [ZX.eK,ZX.yL,ZX.nD,ZX.eK,ZX.eK,ZX.yL,h1]
  have:=hV t
  rw [h2]at this
  show m*V t a.l=V t q*V t c.l+1*0
  omega
 ·have hgp:=c7 hcp hz
  refine⟨m,g*(bV (aN r g):Int),⟨q,c1⟩,hm,Int.mul_ne_zero hg (by omega),ZX.ext fun t=>?_⟩
  have h1:=FL hcp hz
  have h2:V t (aN r g)=V t R.l*(bV (aN r g):Int):=by
   rw [hl,←dY,h1]
  rw [cR]at h2
  rw [ZX.eK,ZX.yL,ZX.nD,ZX.eK,ZX.eK,ZX.yL]
  have:=hV t
  show m*V t a.l=V t q*V t c.l+g*(bV (aN r g):Int)*V t R.l
  rw [←this]
  have h3:V t r=g*(V t r*g):=by
   have:g*(V t r*g)=V t r*(g*g):=by grind
   rw [this,QR];omega
  rw [h3,h2];grind
theorem avn{a c:ZX}(hc:c≠0):ZX.N (rs a c)<ZX.N c:=aiQ (ZX.aI.1 hc)
theorem jL{s n:Nat}{x:List Int}(hx:Bd 2 s n x):Bd 2 s n (kK x):=Bd.cut ⟨by simpa using hx.len,fun c hc=>by
 simp only [List.mem_map]at hc
 obtain⟨v,hv,rfl⟩:=hc
 refine Nat.le_trans (cK (by decide) ?_) (hx.sz v hv)
 unfold k9
 split
 ·exact Int.natAbs_ediv_le_natAbs _ _
 ·simp⟩
theorem avo{s s' n:Nat}{a c:ZX}(ha:BZ s n a)(hb:BZ s' n c)(hc:c≠0):BZ (s+(ZX.N a+1-ZX.N c)*(s'+n+1)) n (rs a c):=by
 have h0:=ZX.aI.1 hc
 have hl:=avn (a:=a) hc
 have hk:jW a.l c.l≤n:=by
  have h1:=ha.N
  have h2:jW a.l c.l=ZX.N a+1-ZX.N c:=rfl
  omega
 obtain⟨_,h2⟩:=adV (B:=2) (by decide) hb (jW a.l c.l) s [] a.l hk ⟨by simp,fun c hc=>by cases hc⟩ (ha.mono (Nat.le_refl _) (by omega))
 have h3:Bd 2 (s+jW a.l c.l*(s'+n+1)) (n+n) (PM a.l c.l):=by
  unfold PM
  split
  ·exact jL (Bd.fU h2)
  ·exact jL h2
 have h4:=hb.N
 have h5:ZX.N (rs a c)=(PM a.l c.l).length:=rfl
 exact⟨by show(PM a.l c.l).length≤n;omega,fun d hd=>h3.sz d hd⟩
theorem afa{d:Nat}(h:1≤d):d+2≤4^d:=by
 obtain⟨k,rfl⟩:∃k,d=k+1:=⟨d-1,by omega⟩
 clear h
 induction k with
 | zero=>decide
 | succ k ih=>rw [Nat.pow_succ];omega
def BX(C n s:Nat)(a c:ZX):Prop:=if ZX.N c<ZX.N a then(s+n+1)*4^ZX.N a≤C else(s+n+1)*2*4^ZX.N c≤C
theorem BX.le{C n s:Nat}{a c:ZX}(h:BX C n s a c):s+n+1≤C:=by
 unfold BX at h
 split at h
 ·exact Nat.le_trans (Nat.le_mul_of_pos_right _ (Nat.pow_pos (by decide))) h
 ·refine Nat.le_trans ?_ h
  rw [Nat.mul_assoc]
  exact Nat.le_mul_of_pos_right _ (Nat.mul_pos (by decide) (Nat.pow_pos (by decide)))
theorem BX.step{C n s:Nat}{a c r:ZX}(h:BX C n s a c)(hr:ZX.N r<ZX.N c):BX C n (s+(ZX.N a+1-ZX.N c)*(s+n+1)) c r:=by
 unfold BX at h ⊢
 rw [if_pos hr]
 generalize hT:s+n+1=T at *
 have e:s+(ZX.N a+1-ZX.N c)*T+n+1=(ZX.N a+1-ZX.N c+1)*T:=by
  rw [Nat.add_mul,Nat.one_mul];omega
 rw [e]
 split at h
 ·rename_i h1
  obtain⟨d,hd⟩:∃d,ZX.N a=ZX.N c+d:=⟨ZX.N a-ZX.N c,by omega⟩
  have h2:=afa (d:=d) (by omega)
  rw [hd,Nat.pow_add]at h
  have h3:(ZX.N a+1-ZX.N c+1)*T≤4^d*T:=Nat.mul_le_mul_right _ (by omega)
  refine Nat.le_trans (Nat.mul_le_mul_right _ h3) ?_
  have:4^d*T*4^ZX.N c=T*(4^ZX.N c*4^d):=by grind
  omega
 ·rename_i h1
  refine Nat.le_trans (Nat.mul_le_mul_right _ (Nat.mul_le_mul_right T (show ZX.N a+1-ZX.N c+1≤2 by omega))) ?_
  rw [Nat.mul_comm 2 T];exact h
theorem afb{s n C:Nat}{a c:ZX}(b:BZ s n a)(b':BZ s n c)(hP:BX C n s (nf a) (nf c))(hB:(n+1)*C≤99000000000):aD env.P 157 [Po a.l,Po c.l] (Po (gz a c).l):=by
 have hC:C≤99000000000:=Nat.le_trans (Nat.le_mul_of_pos_left C (by omega)) hB
 rw [Nat.succ_mul]at hB
 have hs:=hP.le
 have p1:=nY b (by omega) (by omega)
 have p2:=nY b' (by omega) (by omega)
 have b1:=b.nf
 have b2:=b'.nf
 have hg:gz (nf a) (nf c)=gz a c:=by rw [YP,U7]
 rw [←hg]
 generalize pL:nf a=x0 at *
 generalize UB:nf c=y0 at *
 generalize hG:gz x0 y0=G at *
 refine b6 [(0,Po a.l),(1,Po c.l)] Tryz.func157 ?_
 generalize a.l=al at *
 generalize c.l=cl at *
 refine aA [0,1] ?_
 refine iM ?_
 refine bW p1 ?_
 refine bU [0,1] p2 ?_
 refine W.seq ?_
 refine W.block ?_
 refine W.bE (fun k σ=>∃(x y:ZX) (s:Nat) (rows:Pm.Rows) (clk:Nat),σ=⟨fa [(0,Po x.l),(1,Po y.l)],rows,clk⟩∧BZ s n x∧BZ s n y∧BX C n s x y∧gz x y=G∧k=ZX.N y) (ZX.N y0) ?_ ?_
 ·exact⟨_, .refl,x0,y0,s,_,_,rfl,b1,b2,hP,hG,rfl⟩
 rintro k _ ⟨x,y,s,rows,clk,rfl,bx,pP,hp,hgz,rfl⟩
 have hs:=hp.le
 have hlx:=bx.len
 have hly:=pP.len
 refine aM [0,1,13] ?_
 refine bF ?_ ?_<;>intro h
 ·have hy:y≠0:=ZX.aI.2 (by show 0<y.l.length;simp at h;omega)
  obtain⟨m,k,q,hm,hk,e⟩:=ajb (a:=x) hy
  have hR:=PO (x.l.map jD) (y.l.map jD) (bx.tL (by omega) (by omega)) (pP.tL (by omega) (by omega)) (s:=s) (s':=s) (N:=n) (by rw [bP];exact QQ bx) (by rw [bP];exact QQ pP) (by
   have:n*(s+n+1)≤n*C:=Nat.mul_le_mul_left n hs
   omega)
  rw [BW,BW,if_neg (vB hy),←fI,←fI,show PM x.l y.l=(rs x y).l from rfl]at hR
  have br:=avo bx pP hy
  have hN:=avn (a:=x) hy
  have UI:=hp.step hN
  have pV:=LV hm hk e
  refine W.skip ?_
  refine W.block ?_
  refine aJ [1,5] hR ?_
  refine W.cE (fun K hK=>?_)
  simp (disch:=omega) [gw]
  refine hK _ ⟨ZX.N (rs x y),_,aC _ [0,1],hN,y,rs x y,_,_,_,rfl,pP.mono (by omega) (Nat.le_refl _),br,UI,by rw [←pV,hgz],rfl⟩
 ·have hy:y=0:=by
   refine Classical.byContradiction fun h0=>?_
   have h1:=ZX.aI.1 h0
   have h2:ZX.N y=y.l.length:=rfl
   simp at h;rw [h2,h]at h1;simp at h1
  subst hy
  rw [uY]at hgz
  have p3:=nY bx (by omega) (by omega)
  rw [hgz]at p3
  refine eV ?_
  refine aJ [4] p3 ?_
  exact b7
theorem YU{s n C:Nat}{a c:ZX}(b:BZ s n a)(b':BZ s n c)(hP:BX C n s (nf a) (nf c))(hn:n≤20)(hC:C≤4500000000):aD env.P 157 [Po a.l,Po c.l] (Po (gz a c).l):=
 afb b b' hP (Nat.le_trans (Nat.mul_le_mul (show n+1≤21 by omega) hC) (by decide))
def zp(a:ZX):List PV:=[Po a.l]
@[simp] theorem aAD{a:ZX}:zp a = [Po a.l]:=rfl
@[simp] theorem arK{l:List ZX}:bT 1 (emap zp l)=True:=cY fun _=>rfl
@[simp] theorem aAE{l:List ZX}{a:ZX}:emap zp l ++ [[aG ie a.l]]=emap zp (l ++ [a]):=by simp [emap]
@[simp] theorem apg{v e n:Nat}{l:List ZX}:dG (some ⟨v,e,n,emap zp l⟩)=True:=cN fun _=>rfl
theorem BZ.b9{h n:Nat}{a:ZX}(b:BZ h n a)(hn:n≤31):BZ (h+5) n (ZX.b9 a):=Bd.cut ⟨by have:=b.len;simp [ZX.AD];omega,fun c hc=>by
 simp only [ZX.AD,List.mem_map,List.mem_range]at hc
 obtain⟨i,hi,rfl⟩:=hc
 have:=b.len
 exact cO (by decide) (b.nth _) (cQ (k:=5) (by decide) (by rw [Int.natAbs_natCast];show i+1<32;omega))⟩
theorem ajc{h n:Nat}{a:ZX}(b:BZ h n a)(hn:n<1099511627776):aD env.P 87 [Po a.l] (.int .i64 ((ZX.N a:Int)-1)):=lA a.l (by have:=b.len;omega)
structure sM(s n:Nat)(a:ZX):Prop where
 bz:BZ s n a
 hn:n≤20
 hs:n+1≤2^s
 hC:(qb s n+n+6)*4^n≤4500000000
theorem sM.sA{s n:Nat}{a:ZX}(h:sM s n a):qb s n+n+6≤4500000000:=Nat.le_trans (Nat.le_mul_of_pos_right _ (Nat.pow_pos (by decide))) h.hC
theorem sM.dv{s n:Nat}{a c:ZX}(h:sM s n a)(ha:Nf a)(hc:Nf c)(hd:ZX.dv c a):BZ (qb s n) n c:=avm ha hc hd h.bz h.hs
theorem sM.nfz{s n:Nat}{a:ZX}(h:sM s n a):sM s n (nf a):=⟨h.bz.nf,h.hn,h.hs,h.hC⟩
theorem sM.gdz{s n:Nat}{a c:ZX}(h:sM s n a)(ha:Nf a)(hc:Nf c)(hd:ZX.dv c a):aD env.P 157 [Po c.l,Po (ZX.b9 c).l] (Po (gd c).l)∧aD env.P 89 [Po c.l] (Po (ZX.b9 c).l)∧aD env.P 156 [Po c.l,Po (gd c).l] (Po (qz c (gd c)).l):=by
 have b:=h.dv ha hc hd
 have b2:=b.b9 (by have:=h.hn;omega)
 have hq:=h.sA
 have hn:=h.hn
 have bg:=h.dv ha (YQ hc.ne) ((BV c).trans hd)
 refine⟨YU (s:=qb s n+5) (b.mono (by omega) (Nat.le_refl _)) b2 ?_ h.hn (C:=4500000000) (Nat.le_refl _),rJ b (by omega) (by omega),YT b bg hc (YQ hc.ne) (BV c) (by
  have:n*(qb s n+n+1)≤20*4500000000:=Nat.mul_le_mul hn (by omega)
  omega)⟩
 have hN:=ZX.nG c
 have h1:ZX.N c≤n:=b.N
 have h2:=ZX.aI.1 hc.ne
 unfold BX
 rw [yM,yM,if_pos (by omega)]
 refine Nat.le_trans (Nat.mul_le_mul (show qb s n+5+n+1≤qb s n+n+6 by omega) (Nat.pow_le_pow_right (by decide) h1)) h.hC
theorem U9{s n:Nat}{a:ZX}(h:sM s n a):aD env.P 239 [Po a.l] (aG zp ((List.range (nl (nf a))).map (wz (nf a)))):=by
 have p1:=nY h.bz (by have:=h.sA;unfold qb at this;omega) (by have:=h.hn;omega)
 have hA:=h.nfz
 have hNf:2≤ZX.N (nf a)→Nf (nf a):=fun h2=>jK fun h0=>by rw [h0,lE]at h2;revert h2;decide
 have hle:=I3 (nf a)
 have hbn:=hA.bz.N
 have hn:=h.hn
 generalize hAe:nf a=A at *
 refine b6 [(0,Po a.l)] Tryz.func239 ?_
 refine aA [0] ?_
 refine aA [0,3] ?_
 refine W.seq ?_
 refine aJ [3,4] p1 ?_
 refine W.nil 3 3 24 1 (by simp) (by decide) (fun K hK=>?_)
 refine W.lw [3,4] hK ?_;clear hK K;simp
 refine W.block ?_
 refine W.bE (fun k σ=>∃(i ver:Nat) (rows:Pm.Rows) (clk:Nat),σ=⟨fa [(3, .own 3 ver 0 i),(4,Po (gs A i).l)],rows,clk⟩∧rows 3=some ⟨ver,24,1,emap zp ((List.range i).map (wz A))⟩∧i+k=nl A) (nl A) ?_ ?_
 ·exact⟨_, .refl,0,_,_,_,rfl,by simp [emap],by omega⟩
 rintro k _ ⟨i,ver,rows,clk,rfl,hr,EV⟩
 have wL:(emap zp ((List.range i).map (wz A))).length=i:=by simp [emap]
 refine W.seq ?_
 have aph:aD env.P 87 [Po (gs A i).l] (.int .i64 ((ZX.N (gs A i):Int)-1)):=lA (gs A i).l (by
  have h1:ZX.N (gs A i)=(gs A i).l.length:=rfl
  rcases ai9 (a:=A) i with h2 | h2<;>omega)
 refine aJ [3,4,10] aph ?_
 refine W.cond ⟨_,rfl,fun h3=>?_,fun h3=>?_⟩
 ·have h2:2≤ZX.N (gs A i):=by simp at h3;omega
  have hi:i<nl A:=by
   rcases Nat.lt_or_ge i (nl A)with h4 | h4
   ·exact h4
   ·have h5:=(lF A).1
    rw [show nl A=i by omega]at h5;omega
  have hA0:2≤ZX.N A:=by
   have:=(lF A).2 0 (by omega)
   exact this
  have nA:=hNf hA0
  have ng:=oK nA i
  obtain⟨t1,t2,t3⟩:=hA.gdz nA ng (I2 A i)
  have hw:qz (gs A i) (gd (gs A i))=wz A i:=rfl
  have hs:gd (gs A i)=gs A (i+1):=rfl
  rw [hw,hs]at t3
  rw [hs]at t1
  generalize hg:(gs A i).l=g at *
  generalize pV:(gs A (i+1)).l=g2 at *
  refine W.skip ?_
  refine W.block ?_
  refine iM ?_
  refine bW t2 ?_
  refine bU [3,4,5] t1 ?_
  refine iM ?_
  refine aB t3 ?_
  simp (disch:=omega) [gw,hr,wL]
  refine bN [3,5] ?_
  refine W.cE (fun K hK=>?_);simp (disch:=omega) [gw]
  subst pV
  refine hK _ ⟨k-1,_,aC _ [3,4],by omega,i+1,_,_,_,rfl,?_,by omega⟩
  rw [List.range_succ,List.map_append]
  simp [emap,zp]
 ·have h2:ZX.N (gs A i)≤1:=by simp at h3;omega
  have hi:i=nl A:=by
   rcases Nat.lt_or_ge i (nl A)with h4 | h4
   ·have:=(lF A).2 i h4;omega
   ·omega
  rw [hi]at hr
  have zF:List.take (nl A) (List.map (wz A) (List.range (nl A)))=List.map (wz A) (List.range (nl A)):=List.take_of_length_le (by simp)
  refine eV ?_
  refine W.sr ?_
  rw [hi]
  simp (disch:=omega) [gw,hr,zF]
  refine bN [2] ?_
  refine W.ret ?_
  simp [go,hr,zF]
theorem QS{s n:Nat}{a:ZX}(hA:sM s n a)(na:Nf a)(k:Nat):BZ (qb s n) n (wz a k):=hA.dv na (gQ na k).1 (C5 na k)
theorem fJ(f:Nat→ZX){m i:Nat}(h:i<m):nth ((List.range m).map f) i=f i:=by
 rw [dE (by simpa using h)];simp
theorem avp{a:ZX}(h:0<nl (nf a)):Nf (nf a):=by
 have h1:=(lF (nf a)).2 0 h
 exact jK fun h0=>by
  rw [h0,lE]at h1
  have h2:ZX.N (gs 0 0)=0:=by decide
  omega
theorem QT{s n:Nat}{a:ZX}(h:sM s n a):aD env.P 188 [Po a.l] (aG zp (fl (nf a))):=by
 have hL:=U9 h
 have hA:=h.nfz
 have hNf:=avp (a:=a)
 have hle:=I3 (nf a)
 have hbn:=hA.bz.N
 have hn:=h.hn
 have hqb:=h.sA
 generalize hAe:nf a=A at *
 have GS:((List.range (nl A)).map (wz A)).length=nl A:=by simp
 have hq:∀i,i+1<nl A→aD env.P 156 [Po (nth ((List.range (nl A)).map (wz A)) i).l,Po (nth ((List.range (nl A)).map (wz A)) (i+1)).l] (Po (mT A i).l):=fun i hi=>by
  have nA:=hNf (by omega)
  rw [fJ _ (by omega),fJ _ hi]
  exact YT (QS hA nA i) (QS hA nA (i+1)) (gQ nA i).1 (gQ nA (i+1)).1 (QN nA i) (by
   have:n*(qb s n+n+1)≤20*4500000000:=Nat.mul_le_mul hn (by omega)
   omega)
 have vR:∀i,i+1=nl A→nth ((List.range (nl A)).map (wz A)) i=mT A i:=fun i hi=>by
  rw [fJ _ (by omega),aja (hNf (by omega)) hi]
 generalize hM:(List.range (nl A)).map (wz A)=M at *
 obtain⟨m,hm⟩:∃m,m=nl A:=⟨_,rfl⟩
 have XV:(fl A)=(List.range m).map (mT A):=by rw [hm];rfl
 rw [XV]
 rw [←hm]at GS hq vR hle
 refine b6 [(0,Po a.l)] Tryz.func188 ?_
 refine aA [0] ?_
 refine aJ [3] hL ?_
 refine W.sr ?_
 simp (disch:=omega) [gw,GS]
 refine bN [3,4] ?_
 refine W.seq ?_
 refine W.sr ?_
 simp (disch:=omega) [gw,GS]
 refine bN [3,4,12,13,14] ?_
 refine W.block ?_
 refine W.bE (fun k σ=>∃(i ver:Nat) (els:List (List PV)) (rows:Pm.Rows) (clk:Nat),σ=⟨fa [(3,aG zp M),(4, .own 11 ver 0 m),(12,aG zp M),(13, .int .i64 m),(14, .int .i64 i)],rows,clk⟩ ∧
  rows 11=some ⟨ver,24,1,els⟩∧els.length=m∧(∀e∈els,e.length=1)∧els.take i=emap zp ((List.range i).map (mT A))∧i+k=m) m ?_ ?_
 ·exact⟨_, .refl,0,_,List.replicate m [.nil],_,_,rfl,by simp,by simp,by simp,by simp [emap],by omega⟩
 rintro k _ ⟨i,ver,els,rows,clk,rfl,hr,nT,R3,sI,EV⟩
 refine cB [3,4,12,13,14,15] ?_
 refine W.cond ⟨_,rfl,fun h3=>?_,fun h3=>?_⟩
 ·have hi:i<m:=by simp at h3;omega
  clear h3
  have hiM:i<M.length:=by omega
  have wL:i<els.length:=by omega
  have hE:∀e:List (List PV),e.length=m→(∀x∈e,x.length=1)→vN e i 1=True:=fun e h1 h2=>by
   simp only [eq_iff_iff,iff_true]
   exact⟨e[i]'(by omega),List.getElem?_eq_getElem (by omega),by rw [h2 _ (List.getElem_mem _)];omega⟩
  have hS:∀(e:List (List PV)) (v:PV),e.length=m→(∀x∈e,x.length=1)→i5 e i 0 [v]=e.set i [v]:=fun e v h1 h2=>by
   have h4:=h2 _ (List.getElem_mem (show i<e.length by omega))
   rw [i5,List.getElem?_eq_getElem (by omega)]
   simp [List.drop_of_length_le,h4]
  have h1E:=hE els nT R3
  have h1S:=hS els (Po (nth M i).l) nT R3
  have acw:(els.set i [Po (nth M i).l]).length=m:=by simpa using nT
  have GL:∀e∈els.set i [Po (nth M i).l],e.length=1:=fun e he=>by
   rcases List.mem_or_eq_of_mem_set he with h4 | h4
   ·exact R3 e h4
   ·rw [h4];rfl
  have avq:(els.set i [Po (nth M i).l]).take i=emap zp ((List.range i).map (mT A)):=by rw [iA (Nat.le_refl i)];exact sI
  have h2E:=hE _ acw GL
  have h2S:=hS (els.set i [Po (nth M i).l]) (Po (mT A i).l) acw GL
  have fin:∀(e:List (List PV)),e.length=m→(∀x∈e,x.length=1)→e.take i=emap zp ((List.range i).map (mT A))→(e.set i [Po (mT A i).l]).take (i+1)=emap zp ((List.range (i+1)).map (mT A)):=fun e h1 h2 h4=>by
   rw [kY h4 (by omega),List.range_succ,List.map_append]
   simp [emap,zp]
  refine W.skip ?_
  refine W.dV (fun σ=>∃(els:List (List PV)) (rows:Pm.Rows) (clk:Nat),σ=⟨fa [(3,aG zp M),(4, .own 11 ver 0 m),(12,aG zp M),(13, .int .i64 m),(14, .int .i64 i)],rows,clk⟩ ∧
   rows 11=some ⟨ver,24,1,els⟩∧els.length=m∧(∀e∈els,e.length=1)∧els.take (i+1)=emap zp ((List.range (i+1)).map (mT A))) ?_ ?_
  ·refine aA [3,4,5,6,12,13,14] ?_
   refine W.sr ?_
   simp (disch:=omega) [gw,hr,h1E,h1S]
   refine bN [3,4,5,6,12,13,14] ?_
   refine W.sr ?_
   simp (disch:=omega) [gw,GS]
   refine bN [3,4,5,6,12,13,14,27] ?_
   refine W.cond ⟨_,rfl,fun h3=>?_,fun h3=>?_⟩
   ·have hi1:i+1<m:=by simp at h3;omega
    have aAF:i+1<M.length:=by omega
    have e1:((i:Int)+1).toNat=i+1:=by omega
    refine W.cE (fun K hK=>?_)
    simp (disch:=omega) [gw,e1,aAF]
    refine aB (hq i hi1) ?_
    simp (disch:=omega) [gw,h2E,h2S]
    exact hK _ ⟨_,aC _ [3,4,12,13,14],_,_,_,rfl,by simp,by simpa using nT,fun e he=>by
     rcases List.mem_or_eq_of_mem_set he with h4 | h4
     ·exact GL e h4
     ·rw [h4];rfl,fin _ acw GL avq⟩
   ·have hi1:i+1=m:=by simp at h3;omega
    refine W.skip ?_
    refine⟨_,aC _ [3,4,12,13,14],_,_,_,rfl,by simp,acw,GL,?_⟩
    have h4:=fin els nT R3 sI
    rw [←vR i hi1]at h4
    rw [h4]
  rintro _ ⟨els,rows,clk,rfl,hr,nT,R3,sI⟩
  refine W.cE (fun K hK=>?_);simp (disch:=omega) [gw]
  refine hK _ ⟨k-1,_,aC _ [3,4,12,13,14],by omega,i+1,_,_,_,_,rfl,hr,nT,R3,sI,by omega⟩
 ·have hi:i=m:=by simp at h3;omega
  subst hi
  rw [bQ nT]at sI
  subst sI
  have zF:List.take i (List.map (mT A) (List.range i))=List.map (mT A) (List.range i):=List.take_of_length_le (by simp)
  refine eV ?_
  refine W.sr ?_
  simp (disch:=omega) [gw,hr,zF]
  refine bN [2] ?_
  refine W.ret ?_
  simp [go,hr,zF]
noncomputable def FM(L:List ZX):ZX:=L.foldl gz 0
theorem aje(L:List ZX)(hL:L.length<1099511627776)(h2:∀i,i<L.length→aD env.P 157 [Po (FM (L.take i)).l,Po (nth L i).l] (Po (FM (L.take (i+1))).l)):aD env.P 184 [aG zp L] (Po (FM L).l):=by
 refine b6 [(0,aG zp L)] Tryz.func184 ?_
 refine aA [0] ?_
 refine aA [0,3] ?_
 refine W.KS 3 (Po (FM (L.take 0)).l) (by simp) rfl (fun K hK=>?_)
 refine W.lw [0,3] hK ?_;clear hK K;simp
 refine aM [3,6,7,8] ?_
 refine W.block ?_
 refine W.bE (fun k σ=>∃(i:Nat) (rows:Pm.Rows) (clk:Nat),σ=⟨fa [(3,Po (FM (L.take i)).l),(6,aG zp L),(7, .int .i64 L.length),(8, .int .i64 i)],rows,clk⟩∧i+k=L.length) L.length ?_ ?_
 ·exact⟨_, .refl,0,_,_,by simp;exact⟨rfl,rfl⟩,by omega⟩
 rintro k _ ⟨i,rows,clk,rfl,EV⟩
 refine cB [3,6,7,8,9] ?_
 refine bF ?_ ?_<;>intro h
 ·have hi:i<L.length:=by simp at h;omega
  have ht:=h2 i hi
  generalize pV:FM (L.take (i+1))=g2 at *
  generalize FM (L.take i)=g at *
  refine jV ?_
  refine aA [3,5,6,7,8] ?_
  refine W.cE (fun K hK=>?_)
  simp (disch:=omega) [gw]
  refine bW ht ?_
  refine W.lw [3,6,7,8] hK ?_;clear hK K;simp
  refine W.cE (fun K hK=>?_);simp (disch:=omega) [gw]
  subst pV
  refine hK _ ⟨k-1,_,aC _ [3,6,7,8],by omega,i+1,_,_,rfl,by omega⟩
 ·have hi:i=L.length:=by simp at h;omega
  subst hi
  rw [List.take_length]
  refine eV ?_
  refine aA [2] ?_
  exact b7
theorem afd:aD env.P 12 [.sl [[.int .i64 1]]] (Po (1:ZX).l):=by
 have:=CX [1] (by decide) (by decide)
 exact this
noncomputable def sq(a:ZX):ZX:=if ZX.N a≤1 then nf a else sz' (nf a)
theorem QU{α:Type}{g:α→List PV}{l:List α}{s n:Nat}{a:ZX}(h:sM s n a)(p1:aD env.P 155 [aG g l] (Po (nf a).l)):aD env.P 74 [aG g l] (Po (sq a).l):=by
 have hqb:=h.sA
 have hn:=h.hn
 have hA:=h.nfz
 have aph:=ajc hA.bz (by omega)
 have hsq:sq a=if ZX.N (nf a)≤1 then nf a else sz' (nf a):=by rw [yM];rfl
 have nA:2≤ZX.N (nf a)→Nf (nf a):=fun h2=>jK fun h0=>by rw [h0,lE]at h2;revert h2;decide
 rw [hsq]
 generalize nf a=A at *
 refine b6 [(0,aG g l)] Tryz.func74 ?_
 refine aA [0] ?_
 refine aJ [0] p1 ?_
 refine W.seq ?_
 refine aJ [0,7] aph ?_
 refine W.cond ⟨_,rfl,fun h3=>?_,fun h3=>?_⟩
 ·have h2:ZX.N A≤1:=by simp at h3;omega
  rw [if_pos h2]
  refine aA [2] ?_
  exact b7
 ·have h2:2≤ZX.N A:=by simp at h3;omega
  obtain⟨t1,t2,t3⟩:=hA.gdz (nA h2) (nA h2) (ZX.dv.refl A)
  rw [if_neg (by omega),show sz' A=qz A (gd A)from rfl]
  generalize (gd A).l=g1 at *
  refine W.skip ?_
  refine iM ?_
  refine bW t2 ?_
  refine bW t1 ?_
  refine bU [2] t3 ?_
  exact b7
theorem wT{s n:Nat}{a:ZX}(h:sM s n a):aD env.P 74 [Po a.l] (Po (sq a).l):=by
 have hqb:=h.sA
 have hn:=h.hn
 exact QU h (nY h.bz (by unfold qb at hqb;omega) (by omega))
theorem ajf{s n:Nat}{a:ZX}(h:sM s n a)(h0:a≠0):aD env.P 108 [Po a.l] (Po (oz (nf a)).l):=by
 have hqb:=h.sA
 have hn:=h.hn
 have sO:s<1099511627774:=by unfold qb at hqb;omega
 have p1:=nY h.bz sO (by omega)
 have hA:=h.nfz
 have nA:=jK h0
 have hF:=QT hA
 rw [QI]at hF
 have hle:=I3 (nf a)
 have hNA:ZX.N (nf a)≤n:=hA.bz.N
 have kQ:(nf a).l.length≠0:=fun h1=>by have h2:=ZX.aI.1 nA.ne;have h3:ZX.N (nf a)=(nf a).l.length:=rfl;omega
 generalize nf a=A at *
 have hmul:∀i,aD env.P 16 [Po (pf A (fun k=>k%2==0) i).l,Po (mT A i).l] (Po (pf A (fun k=>k%2==0) i*mT A i).l):=fun i=>by
  have b1:=hA.dv nA (yO nA (fun k=>k%2==0) i) (C6 nA _ i)
  have b2:=hA.dv nA (yN nA i).1 (LW nA i)
  exact qE (QQ b1) (QQ b2) (by omega)
 obtain⟨m,hm⟩:∃m,m=nl A:=⟨_,rfl⟩
 have hoz:oz A=pf A (fun k=>k%2==0) m:=by rw [hm];rfl
 have XV:fl A=(List.range m).map (mT A):=by rw [hm];rfl
 rw [hoz]
 rw [XV]at hF
 have GS:((List.range m).map (mT A)).length=m:=by simp
 have wU:∀i,i<m→nth ((List.range m).map (mT A)) i=mT A i:=fun i hi=>fJ _ hi
 generalize (List.range m).map (mT A)=L at *
 have h1:=afd
 rw [show(1:ZX)=pf A (fun k=>k%2==0) 0 from rfl]at h1
 generalize hg:pf A (fun k=>k%2==0) 0=g0 at *
 refine b6 [(0,Po a.l)] Tryz.func108 ?_
 refine aA [0] ?_
 refine aJ [0] p1 ?_
 refine aM [0,10] ?_
 refine W.cond ⟨_,rfl,fun h3=>?_,fun h3=>?_⟩
 ·simp at h3;exact absurd (by rw [h3];rfl) kQ
 clear h3
 refine W.skip ?_
 refine aJ [0,3] h1 ?_
 refine W.seq ?_
 refine iM ?_
 refine aB hF ?_
 simp (disch:=omega) [gw,GS]
 refine bN [3,14,15,16] ?_
 subst hg
 refine W.block ?_
 refine W.bE (fun k σ=>∃(i:Nat) (rows:Pm.Rows) (clk:Nat),σ=⟨fa [(3,Po (pf A (fun k=>k%2==0) i).l),(14,aG zp L),(15, .int .i64 m),(16, .int .i64 i)],rows,clk⟩∧i+k=m) m ?_ ?_
 ·exact⟨_, .refl,0,_,_,rfl,by omega⟩
 rintro k _ ⟨i,rows,clk,rfl,EV⟩
 refine cB [3,14,15,16,17] ?_
 refine bF ?_ ?_<;>intro h
 ·have hi:i<m:=by simp at h;omega
  have hiL:i<L.length:=by omega
  have ht:=hmul i
  have lT:=wU i hi
  have hpf:pf A (fun k=>k%2==0) (i+1)=if i%2==0 then pf A (fun k=>k%2==0) i*mT A i else pf A (fun k=>k%2==0) i:=rfl
  generalize pV:pf A (fun k=>k%2==0) (i+1)=g2 at *
  generalize pf A (fun k=>k%2==0) i=g at *
  have e2:((i:Int)%2==0)=(i%2==0):=by rw [Bool.eq_iff_iff,beq_iff_eq,beq_iff_eq];omega
  refine W.skip ?_
  refine W.dV (fun σ=>∃(rows:Pm.Rows) (clk:Nat),σ=⟨fa [(3,Po g2.l),(14,aG zp L),(15, .int .i64 m),(16, .int .i64 i)],rows,clk⟩) ?_ ?_
  ·refine W.sr ?_
   simp (disch:=omega) [gw,lT]
   refine bN [3,4,5,14,15,16] ?_
   refine W.sr ?_
   simp (disch:=omega) [gw,e2]
   refine bN [3,5,14,15,16,23] ?_
   refine bF ?_ ?_<;>intro h
   ·rw [h,if_pos rfl]at hpf
    rw [hpf]
    refine W.cE (fun K hK=>?_)
    simp (disch:=omega) [gw]
    refine bW ht ?_
    exact hK _ ⟨_,aC _ [3,14,15,16],_,_,rfl⟩
   ·rw [h,if_neg (by decide)]at hpf
    rw [hpf]
    refine W.skip ?_
    exact⟨_,aC _ [3,14,15,16],_,_,rfl⟩
  rintro _ ⟨rows,clk,rfl⟩
  subst pV
  refine W.cE (fun K hK=>?_);simp (disch:=omega) [gw]
  refine hK _ ⟨k-1,_,aC _ [3,14,15,16],by omega,i+1,_,_,rfl,by omega⟩
 ·have hi:i=m:=by simp at h;omega
  subst hi
  refine eV ?_
  refine aA [2] ?_
  exact b7
@[simp] theorem abj:([]:List Int).length=0:=rfl
theorem mE{h n:Nat}{a:ZX}(b:BZ h n a)(h1:1≤h)(hh:h≤YY)(hn:n<1099511627776):aD env.P 82 [PI a.l] (PI (nf a).l):=by
 have hP:=FA a.l b a.c h1 hh hn
 have e:tO a.l=(nf a).l:=rfl
 rw [e]at hP
 generalize mC a.l=c at *
 generalize (nf a).l=d at *
 generalize a.l=x at *
 refine b6 [(0,PI x)] Tryz.func82 ?_
 refine aA [0] ?_
 refine aJ [4] hP ?_
 refine aA [2] ?_
 exact b7
theorem rK{h n:Nat}{a:ZX}(b:BZ h n a)(hh:h≤YY)(hn:n≤1000):aD env.P 107 [PI a.l] (PI (ZX.b9 a).l):=by
 have hlen:=b.len
 have e0:(ZX.b9 a).l=aL ((List.range (a.l.length-1)).map fun k=>nth a.l (k+1)*((k:Int)+1)):=rfl
 rw [e0]
 have hz:=fun k=>b.nth k
 generalize a.l=x at *
 generalize hm:x.length-1=m at *
 refine dH (E:=env) (fun id=>if id=5 then 2 else 0) [(0,PI x)] Tryz.func107 rfl (by kernel_rfl) (by kernel_rfl) (show 1≤23 by decide) (by simp) ?_
 refine aA [0] ?_
 refine aA [0,3] ?_
 refine W.nil 3 3 31 4 (by simp) (by decide) (fun K hK=>?_)
 refine W.lw [0,3] hK ?_;clear hK K;simp
 refine aM [0,3,4] ?_
 refine W.block ?_
 refine W.bE (fun k σ=>∃(i ver:Nat) (rows:Pm.Rows) (clk:Nat),σ=⟨fa [(0,PI x),(3, .own 3 ver 0 i),(4, .int .i64 ((i:Int)+1))],rows,clk⟩ ∧
  rows 3=some ⟨ver,31,4,emap ri ((List.range i).map fun k=>nth x (k+1)*((k:Int)+1))⟩∧i+k=m) m ?_ ?_
 ·exact⟨_, .refl,0,_,_,_,rfl,by simp [emap],by omega⟩
 rintro k _ ⟨i,ver,rows,clk,rfl,hr,EV⟩
 have wL:(emap ri ((List.range i).map fun k=>nth x (k+1)*((k:Int)+1))).length=i:=by simp [emap]
 refine aM [0,3,4,8] ?_
 refine bF ?_ ?_<;>intro h
 ·have hi:i+1<x.length:=by simp at h;omega
  have o1:=PE ((i:Int)+1) (by omega)
  have hzi:=hz (i+1)
  have m1:=IL (nth x (i+1)) ((i:Int)+1) (Nat.le_trans hzi hh) (Nat.le_trans (cQ (k:=10) (by decide) (by show((i:Int)+1).natAbs<1024;omega)) (by decide))
  have e1:((i:Int)+1).toNat=i+1:=by omega
  have er:(List.range (i+1)).map (fun k=>nth x (k+1)*((k:Int)+1))=(List.range i).map (fun k=>nth x (k+1)*((k:Int)+1)) ++ [nth x (i+1)*((i:Int)+1)]:=by
   rw [List.range_succ,List.map_append];simp
  have aAI:((List.range i).map fun k=>nth x (k+1)*((k:Int)+1)).length=i:=by simp
  generalize (List.range i).map (fun k=>nth x (k+1)*((k:Int)+1))=acc at *
  generalize hq:nth x (i+1)*((i:Int)+1)=q at *
  refine jV ?_
  refine W.H7 (fun K hK=>?_)
  rw [if_pos rfl,fF]
  simp (disch:=omega) [gw,e1]
  refine bW o1 ?_
  refine aB m1 ?_
  simp (disch:=omega) [gw,hr,aAI]
  refine W.lw [0,3,4] hK ?_;clear hK K;simp
  refine W.cE (fun K hK=>?_);simp (disch:=omega) [gw]
  refine hK _ ⟨k-1,_,aC _ [0,3,4],by omega,i+1,_,_,_,by rw [Int.natCast_add];rfl,by rw [er];simp,by omega⟩
 ·have hi:i=m:=by simp at h;omega
  subst hi
  have gH:((List.range i).map fun k=>nth x (k+1)*((k:Int)+1)).length=i:=by simp
  generalize (List.range i).map (fun k=>nth x (k+1)*((k:Int)+1))=acc at *
  have ez:=bQ gH
  refine eV ?_
  refine W.sr ?_
  simp (disch:=omega) [gw,hr,ez]
  refine aB (qB acc (by omega)) ?_
  simp (disch:=omega) [gw]
  refine bN [2] ?_
  exact b7
theorem FN:aD env.P 96 [.sl [[.int .i64 1]]] (PI (1:ZX).l):=K7 [1] (by decide) (by decide)
end Go.Proofs.YtelhfbikiccfkaaGreat
